/- Part 1 of the proof of a law of the given program: the rules that it leans on, and what the functions that it reaches answer; the conditions stand with each theorem. -/
import Derived.Tactics
import Derived.WalkKit
import Derived.Lib.Bytealg
import Derived.Lib.SlTrimSet
import Derived.Lib.Join
import Derived.Lib.Repeat
set_option linter.unusedSimpArgs false
set_option linter.unusedVariables false
/- THE ABSTRACT MACHINE: values, heap, compact instructions, evaluator. No program in sight. -/
namespace Go.Proofs.YtejhhdpfndiliaaGreatDoor.Ab
open Go

/-! ### Values and heap -/
inductive AV where
  | int (k : IntKind) (n : Int)
  | bool (b : Bool)
  | str (s : List UInt8)
  | nilS
  | empS
  | slice (c k off len esz : Nat)
  | nilP
  | ptr (c k off n : Nat)
  | nilM
  | map (c : Nat)
  | iter (c : Nat)
  | fn (f : Nat) (cap : List AV)
  | nilF
  | agg (xs : List AV)
  | tup (xs : List AV)
  | nilI
  | ifc
  | undef
  deriving Inhabited

inductive AO where
  | row (cs : List AV) (ver floor : Nat) (ro : Bool)
  | map (es : List (AV × AV))
  | iter (s : List UInt8) (pos : Nat)
  | mit (cm since : Nat) (seen : List Nat)
  deriving Inhabited

abbrev AH := List AO

def AV.cells : AV → List AV
  | .agg xs => xs
  | v => [v]

/-- A value that fills one cell. -/
def AV.sc : AV → Bool
  | .agg _ | .tup _ | .undef => false
  | _ => true

def mkv (agg : Bool) (xs : List AV) : Option AV :=
  if agg then some (.agg xs) else match xs with
    | [v] => some v
    | _ => none

/-! ### Environments: slots that are known -/
abbrev Env := List (Nat × AV)
def Env.get : Env → Nat → AV
  | [], _ => .undef
  | (k, v) :: e, t => if k = t then v else Env.get e t
def Env.set : Env → Nat → AV → Env
  | [], t, v => [(t, v)]
  | (k, u) :: e, t, v => if k = t then (t, v) :: e else if t < k then (t, v) :: (k, u) :: e else (k, u) :: Env.set e t v
def Env.del : Env → Nat → Env
  | [], _ => []
  | (k, u) :: e, t => if k = t then Env.del e t else (k, u) :: Env.del e t
def Env.dels (e : Env) : List Nat → Env
  | [] => e
  | t :: ts => Env.dels (e.del t) ts
def Env.init : Nat → List AV → Env
  | _, [] => []
  | i, v :: vs => (i, v) :: Env.init (i + 1) vs

/-! ### Instructions -/
inductive Opd where
  | t (n : Nat)
  | c (v : AV)

inductive AOp where
  | mov (x : Opd)
  | pick (c a b : Opd)
  | bin (op : BinOp) (x y : Opd)
  | beq (neg : Bool) (x y : Opd)
  | aeq (neg : Bool) (kds : List Nat) (x y : Opd)
  | niq (neg : Bool) (kd : Nat) (x : Opd)
  | un (op : UnOp) (x : Opd)
  | conv (k : IntKind) (x : Opd)
  | toB (x : Opd)
  | ofB (x : Opd)
  | ofR (x : Opd)
  | new (zero : List AV)
  | box (x : Opd)
  | build (zero : List AV) (parts : List (Nat × Nat × Opd))
  | lit (esz len : Nat) (zero : List AV) (parts : List (Nat × Nat × Opd))
  | lit0
  | load (agg : Bool) (n : Nat) (a : Opd)
  | store (n : Nat) (a x : Opd)
  | nck (x : Opd)
  | faddr (off n : Nat) (a : Opd)
  | fld (agg : Bool) (off n : Nat) (x : Opd)
  | iaddr (esz : Nat) (x i : Opd)
  | iaddrA (len esz : Nat) (a i : Opd)
  | idx (agg : Bool) (len esz : Nat) (x i : Opd)
  | idxS (x i : Opd)
  | sub (esz : Nat) (x : Opd) (lo hi : Option Opd)
  | sub0 (x : Opd) (hi mx : Opd)
  | subS (x : Opd) (lo hi : Option Opd)
  | subA (len esz : Nat) (a : Opd) (lo hi : Option Opd)
  | make (esz : Nat) (zero : List AV) (len cap : Opd)
  | mkmap
  | mkfn (f : Nat) (caps : List Opd)
  | look (kd : Nat) (zero : AV) (ok : Bool) (m k : Opd)
  | mset (kd : Nat) (m k v : Opd)
  | mlen (m : Opd)
  | rng (x : Opd)
  | rngM (x : Opd)
  | ent (it : Opd)
  | nxt (it : Opd)
  | prj (i : Nat) (x : Opd)
  | call (f : Nat) (xs : List Opd)
  | callv (x : Opd) (xs : List Opd)
  | lenS (x : Opd)
  | lenV (x : Opd)
  | app (esz : Nat) (s x : Opd)
  | appS (s x : Opd)
  | copy (esz : Nat) (d s : Opd)
  | clr (zero : List AV) (x : Opd)
  | mmx (max : Bool) (x y : Opd)

structure I where
  dst : Option Nat
  op : AOp
  grd : Option (Nat × Bool) := none

inductive C where
  | skip
  | reg (is : List I)
  | drw (is : List I) (ps : List (Nat × Nat))
  | kl (ts : List Nat) (c : C)
  | seq (a b : C)
  | cond (x : Opd) (a b : C)
  | blk (id : Nat) (c : C)
  | loop (c : C)
  | exit (id : Nat)
  | ret
  | bad

inductive Res where
  | tmp (t : Nat)
  | cell (agg : Bool) (n : Nat) (t : Nat)

structure FI where
  body : C
  res : List Res

/-! ### Memory -/
def room : Nat := 1099511627776

def rdRow (h : AH) (c k off n : Nat) : Option (List AV) :=
  match h[c]? with
  | some (.row cs ver fl _) => if fl ≤ k ∧ k ≤ ver ∧ off + n ≤ cs.length then some ((cs.drop off).take n) else none
  | _ => none

def splice {α : Type} (cs : List α) (off : Nat) (vs : List α) : List α := cs.take off ++ vs ++ cs.drop (off + vs.length)

def wrRow (h : AH) (c k off : Nat) (vs : List AV) : Option AH :=
  match h[c]? with
  | some (.row cs ver fl false) => if k = ver ∧ fl ≤ ver ∧ off + vs.length ≤ cs.length ∧ vs.all AV.sc = true then some (h.set c (.row (splice cs off vs) ver ver false)) else none
  | _ => none

def newRow (h : AH) (cs : List AV) : Option (Nat × AH) := if cs.all AV.sc = true then some (h.length, h ++ [.row cs 0 0 false]) else none

/-- What a slice or a string holds, cell by cell. -/
def cellsOf (h : AH) : AV → Option (List AV)
  | .nilS | .empS => some []
  | .slice c k off len esz => rdRow h c k off (len * esz)
  | .str s => some (s.map fun b => .int .u8 b.toNat)
  | _ => none

/-- append: of n elements, the cells vs; where the slice ends as its row does. -/
def apRow1 (h : AH) (esz : Nat) (s : AV) (n : Nat) (vs : List AV) : Option (AV × AH) :=
  match s with
  | .nilS => if n = 0 then some (.nilS, h) else if n ≤ room then (newRow h vs).map fun (c, h') => (.slice c 0 0 n esz, h') else none
  | .empS => if n = 0 then some (.empS, h) else if n ≤ room then (newRow h vs).map fun (c, h') => (.slice c 0 0 n esz, h') else none
  | .slice c k off len e =>
    match h[c]? with
    | some (.row cs ver fl false) =>
      if e = esz ∧ k = ver ∧ off + len * esz = cs.length ∧ fl ≤ ver ∧ vs.all AV.sc = true ∧ len + n ≤ room then
        some (.slice c (ver + 1) off (len + n) esz, h.set c (.row (cs ++ vs) (ver + 1) fl false)) else none
    | _ => none
  | _ => none

/-- append: of n elements, the cells vs; what lies behind the slice is given up. -/
def apRow (h : AH) (esz : Nat) (s : AV) (n : Nat) (vs : List AV) : Option (AV × AH) :=
  match s with
  | .slice c k off len e =>
    match h[c]? with
    | some (.row cs ver fl false) =>
      if e = esz ∧ k = ver ∧ off + len * esz = cs.length ∧ fl ≤ ver ∧ vs.all AV.sc = true ∧ len + n ≤ room then
        some (.slice c (ver + 1) off (len + n) esz, h.set c (.row (cs ++ vs) (ver + 1) fl false))
      else if e = esz ∧ k = ver ∧ off + len * esz ≤ cs.length ∧ fl ≤ ver ∧ vs.all AV.sc = true ∧ len + n ≤ room then
        some (.slice c (ver + 2) off (len + n) esz, h.set c (.row (cs.take (off + len * esz) ++ vs) (ver + 2) (ver + 1) false))
      else none
    | _ => none
  | _ => apRow1 h esz s n vs

/-! ### Keys of maps -/
def keyEq : AV → AV → Option Bool
  | .int k a, .int k' b => if k = k' then some (a == b) else none
  | .str a, .str b => some (a == b)
  | .bool a, .bool b => some (a == b)
  | _, _ => none
def keyIs : Nat → AV → Bool
  | 0, .int _ _ | 1, .str _ | 2, .bool _ => true
  | _, _ => false
def seqL : List Nat → List AV → List AV → Option Bool
  | [], [], [] => some true
  | kd :: kds, x :: xs, y :: ys => match keyIs kd x, keyEq x y, seqL kds xs ys with
    | true, some a, some b => some (a && b)
    | _, _, _ => none
  | _, _, _ => none

def mfind (k : AV) : List (AV × AV) → Option (Option AV)
  | [] => some none
  | (a, v) :: es => match keyEq k a with
    | some true => some (some v)
    | some false => mfind k es
    | none => none
def mput (k v : AV) : List (AV × AV) → List (AV × AV)
  | [] => [(k, v)]
  | (a, u) :: es => match keyEq k a with
    | some true => (k, v) :: es
    | _ => (a, u) :: mput k v es

/-! ### Operations -/
def two63 : Nat := 9223372036854775807
def binI (op : BinOp) (k : IntKind) (x y : Int) : Option AV :=
  match op with
  | .add => some (.int k (k.wrap (x + y)))
  | .sub => some (.int k (k.wrap (x - y)))
  | .mul => some (.int k (k.wrap (x * y)))
  | .quo => if y = 0 then none else some (.int k (k.wrap (x.tdiv y)))
  | .rem => if y = 0 then none else some (.int k (x.tmod y))
  | .and | .or | .xor | .andNot => some (.int k (bits op k x y))
  | .eql => some (.bool (x == y))
  | .neq => some (.bool (x != y))
  | .lss => some (.bool (decide (x < y)))
  | .leq => some (.bool (decide (x ≤ y)))
  | .gtr => some (.bool (decide (x > y)))
  | .geq => some (.bool (decide (x ≥ y)))
  | .shl | .shr => none
def binSh (op : BinOp) (k : IntKind) (x y : Int) : Option AV :=
  if y < 0 then none else match op with
  | .shl => some (.int k (k.wrap (x * 2 ^ (min y.toNat k.bits))))
  | .shr => some (.int k (x.fdiv (2 ^ (min y.toNat k.bits))))
  | _ => none
def binS (op : BinOp) (x y : List UInt8) : Option AV :=
  match op with
  | .add => if x.length + y.length ≤ two63 then some (.str (x ++ y)) else none
  | .eql => some (.bool (x == y))
  | .neq => some (.bool (!(x == y)))
  | .lss => some (.bool (Op.bytesLess x y))
  | .leq => some (.bool (Op.bytesLess x y || x == y))
  | .gtr => some (.bool (!(Op.bytesLess x y || x == y)))
  | .geq => some (.bool (!(Op.bytesLess x y)))
  | _ => none
def evBin (op : BinOp) : AV → AV → Option AV
  | .int k x, .int k' y => match op with
    | .shl | .shr => binSh op k x y
    | _ => if k = k' then binI op k x y else none
  | .str x, .str y => binS op x y
  | _, _ => none

def evNil : Nat → AV → Option Bool
  | 0, .nilS | 1, .nilP | 2, .nilM | 3, .nilF | 4, .nilI => some true
  | 0, .empS | 0, .slice .. | 1, .ptr .. | 2, .map _ | 3, .fn .. | 4, .ifc => some false
  | _, _ => none

def byte1 : AV → Option UInt8
  | .int .u8 n => some (UInt8.ofNat n.toNat)
  | _ => none
def bytesL : List AV → Option (List UInt8)
  | [] => some []
  | v :: vs => match byte1 v, bytesL vs with
    | some b, some bs => some (b :: bs)
    | _, _ => none

def fillP (cells : List AV) : List (Nat × Nat × AV) → Option (List AV)
  | [] => some cells
  | (off, n, v) :: rest => if v.cells.length = n ∧ off + n ≤ cells.length ∧ v.cells.all AV.sc = true then fillP (splice cells off v.cells) rest else none

def dec (s : List UInt8) (pos : Nat) : Int × Nat := let (c, w) := Utf8.decode ⟨s.toArray⟩ pos; (c, w)

def bnd (o : Option AV) (d top : Nat) : Option Nat :=
  match o with
  | none => some d
  | some (.int _ i) => if 0 ≤ i ∧ i ≤ top then some i.toNat else none
  | _ => none

abbrev CF := Nat → List AV → AH → Option (AV × AH)

def optv (ρ : Opd → AV) : Option Opd → Option AV
  | none => none
  | some x => some (ρ x)

def evOp (cf : CF) (ρ : Opd → AV) (h : AH) : AOp → Option (AV × AH)
  | .mov x => some (ρ x, h)
  | .pick c a b => match ρ c with
    | .bool t => some (if t then ρ a else ρ b, h)
    | _ => none
  | .bin op x y => (evBin op (ρ x) (ρ y)).map (·, h)
  | .beq neg x y => match ρ x, ρ y with
    | .bool a, .bool b => some (.bool (if neg then !(a == b) else a == b), h)
    | _, _ => none
  | .aeq neg kds x y => match ρ x, ρ y with
    | .agg xs, .agg ys => (seqL kds xs ys).map fun b => (.bool (if neg then !b else b), h)
    | _, _ => none
  | .niq neg kd x => (evNil kd (ρ x)).map fun b => (.bool (if neg then !b else b), h)
  | .un op x => match op, ρ x with
    | .neg, .int k n => some (.int k (k.wrap (0 - n)), h)
    | .not, .bool b => some (.bool (!b), h)
    | _, _ => none
  | .conv k x => match ρ x with
    | .int _ n => some (.int k (k.wrap n), h)
    | _ => none
  | .toB x => match ρ x with
    | .str s => if s.length ≤ room then (newRow h (s.map fun b => .int .u8 b.toNat)).map fun (c, h') => (.slice c 0 0 s.length 1, h') else none
    | _ => none
  | .ofB x => match ρ x with
    | .nilS | .empS => some (.str [], h)
    | .slice c k off len e => if e = 1 then match rdRow h c k off len with
        | some cs => (bytesL cs).map fun s => (.str s, h)
        | none => none
      else none
    | _ => none
  | .ofR x => match ρ x with
    | .int _ n => some (.str (Utf8.encode n).data.toList, h)
    | _ => none
  | .new zero => (newRow h zero).map fun (c, h') => (.ptr c 0 0 zero.length, h')
  | .box x => match ρ x with
    | .undef | .tup _ => none
    | v => (newRow h v.cells).map fun (c, h') => (.ptr c 0 0 v.cells.length, h')
  | .build zero parts => (fillP zero (parts.map fun (o, n, x) => (o, n, ρ x))).map fun cs => (.agg cs, h)
  | .lit esz len zero parts => match fillP zero (parts.map fun (o, n, x) => (o, n, ρ x)) with
    | some cs => (newRow h cs).map fun (c, h') => (.slice c 0 0 len esz, h')
    | none => none
  | .lit0 => some (.empS, h)
  | .load agg n a => match ρ a with
    | .ptr c k off m => if n ≤ m then match rdRow h c k off n with
        | some cs => (mkv agg cs).map (·, h)
        | none => none
      else none
    | _ => none
  | .store n a x => match ρ a with
    | .ptr c k off m => if n ≤ m ∧ (ρ x).cells.length = n then (wrRow h c k off (ρ x).cells).map fun h' => (.undef, h') else none
    | _ => none
  | .nck x => match ρ x with
    | .ptr c k off n => some (.ptr c k off n, h)
    | .fn f cs => some (.fn f cs, h)
    | _ => none
  | .faddr off n a => match ρ a with
    | .ptr c k o m => if off + n ≤ m then some (.ptr c k (o + off) n, h) else none
    | _ => none
  | .fld agg off n x => match ρ x with
    | .agg xs => if off + n ≤ xs.length then (mkv agg ((xs.drop off).take n)).map (·, h) else none
    | _ => none
  | .iaddr esz x i => match ρ x, ρ i with
    | .slice c k off len e, .int _ j => if e = esz ∧ 0 ≤ j ∧ j < len then some (.ptr c k (off + j.toNat * esz) esz, h) else none
    | _, _ => none
  | .iaddrA len esz a i => match ρ a, ρ i with
    | .ptr c k off m, .int _ j => if len * esz ≤ m ∧ 0 ≤ j ∧ j < len then some (.ptr c k (off + j.toNat * esz) esz, h) else none
    | _, _ => none
  | .idx agg len esz x i => match ρ x, ρ i with
    | .agg xs, .int _ j => if xs.length = len * esz ∧ 0 ≤ j ∧ j < len then (mkv agg ((xs.drop (j.toNat * esz)).take esz)).map (·, h) else none
    | _, _ => none
  | .idxS x i => match ρ x, ρ i with
    | .str s, .int _ j => if 0 ≤ j ∧ j < s.length then some (.int .u8 (s.getD j.toNat 0).toNat, h) else none
    | _, _ => none
  | .sub esz x lo hi => match ρ x with
    | .nilS => match bnd (optv ρ hi) 0 0 with
      | some b => match bnd (optv ρ lo) 0 b with
        | some _ => some (.nilS, h)
        | none => none
      | none => none
    | .empS => match bnd (optv ρ hi) 0 0 with
      | some b => match bnd (optv ρ lo) 0 b with
        | some _ => some (.empS, h)
        | none => none
      | none => none
    | .slice c k off len e => if e = esz then match bnd (optv ρ hi) len len with
        | some b => match bnd (optv ρ lo) 0 b with
          | some a => some (.slice c k (off + a * esz) (b - a) esz, h)
          | none => none
        | none => none
      else none
    | _ => none
  | .sub0 x hi mx => match ρ x, ρ hi, ρ mx with
    | .nilS, .int _ 0, .int _ 0 => some (.nilS, h)
    | .empS, .int _ 0, .int _ 0 => some (.empS, h)
    | .slice .., .int _ 0, .int _ 0 => some (.empS, h)
    | _, _, _ => none
  | .subS x lo hi => match ρ x with
    | .str s => match bnd (optv ρ hi) s.length s.length with
      | some b => match bnd (optv ρ lo) 0 b with
        | some a => some (.str ((s.drop a).take (b - a)), h)
        | none => none
      | none => none
    | _ => none
  | .subA len esz a lo hi => match ρ a with
    | .ptr c k off m => if len * esz ≤ m ∧ (rdRow h c k off (len * esz)).isSome = true then match bnd (optv ρ hi) len len with
        | some b => match bnd (optv ρ lo) 0 b with
          | some a => some (.slice c k (off + a * esz) (b - a) esz, h)
          | none => none
        | none => none
      else none
    | _ => none
  | .make esz zero len cap => match ρ len, ρ cap with
    | .int _ n, .int _ m => if 0 ≤ n ∧ n ≤ m ∧ m ≤ room ∧ zero.length = esz then
        (newRow h (List.replicate n.toNat zero).flatten).map fun (c, h') => (.slice c 0 0 n.toNat esz, h') else none
    | _, _ => none
  | .mkmap => some (.map h.length, h ++ [.map []])
  | .mkfn f caps => some (.fn f (caps.map ρ), h)
  | .look kd zero ok m k => if keyIs kd (ρ k) = true then match (match ρ m with
      | .nilM => some []
      | .map c => match h[c]? with
        | some (.map es) => some es
        | _ => none
      | _ => none) with
    | some es => match mfind (ρ k) es with
      | some (some v) => some (if ok then .tup [v, .bool true] else v, h)
      | some none => some (if ok then .tup [zero, .bool false] else zero, h)
      | none => none
    | none => none
    else none
  | .mset kd m k v => if keyIs kd (ρ k) = true then match ρ m with
    | .map c => match h[c]? with
      | some (.map es) => match mfind (ρ k) es with
        | some _ => match ρ v with
          | .undef => none
          | u => some (.undef, h.set c (.map (mput (ρ k) u es)))
        | none => none
      | _ => none
    | _ => none
    else none
  | .mlen m => match ρ m with
    | .nilM => some (.int .i64 0, h)
    | .map c => match h[c]? with
      | some (.map es) => some (.int .i64 es.length, h)
      | _ => none
    | _ => none
  | .rng x => match ρ x with
    | .str s => some (.iter h.length, h ++ [.iter s 0])
    | _ => none
  | .rngM x => match ρ x with
    | .map c => match h[c]? with
      | some (.map es) => some (.iter h.length, h ++ [.mit c es.length []])
      | _ => none
    | _ => none
  | .ent it => match ρ it with
    | .iter c => match h[c]? with
      | some (.mit cm since seen) => match h[cm]? with
        | some (.map es) => match seen.getLast? with
          | some i => if es.length = since then (es[i]?).map fun e => (.tup [e.1, e.2], h) else none
          | none => none
        | _ => none
      | _ => none
    | _ => none
  | .nxt it => match ρ it with
    | .iter c => match h[c]? with
      | some (.iter s pos) => if pos < s.length then
          some (.tup [.bool true, .int .i64 pos, .int .i32 (dec s pos).1], h.set c (.iter s (pos + (dec s pos).2)))
        else some (.tup [.bool false], h)
      | _ => none
    | _ => none
  | .prj i x => match ρ x with
    | .tup vs => (vs[i]?).map (·, h)
    | _ => none
  | .call f xs => cf f (xs.map ρ) h
  | .callv x xs => match ρ x with
    | .fn f cap => cf f (xs.map ρ ++ cap) h
    | _ => none
  | .lenS x => match ρ x with
    | .str s => some (.int .i64 s.length, h)
    | _ => none
  | .lenV x => match ρ x with
    | .nilS | .empS => some (.int .i64 0, h)
    | .slice _ _ _ len _ => some (.int .i64 len, h)
    | _ => none
  | .app esz s x => match ρ x with
    | .nilS | .empS => apRow h esz (ρ s) 0 []
    | .slice c k off len e => if e = esz then match rdRow h c k off (len * esz) with
        | some vs => apRow h esz (ρ s) len vs
        | none => none
      else none
    | _ => none
  | .appS s x => match ρ x with
    | .str b => apRow h 1 (ρ s) b.length (b.map fun b => .int .u8 b.toNat)
    | _ => none
  | .copy esz d s => match ρ d, ρ s with
    | .slice c k off len e, .slice c' k' off' len' e' => if e = esz ∧ e' = esz then
        if min len' len = 0 then some (.int .i64 0, h) else match rdRow h c' k' off' (min len' len * esz) with
        | some vs => (wrRow h c k off vs).map fun h' => (.int .i64 ((min len' len : Nat) : Int), h')
        | none => none
      else none
    | _, _ => none
  | .clr zero x => match ρ x with
    | .nilS | .empS => some (.tup [], h)
    | .slice c k off len e => if e = zero.length then
        if len = 0 then some (.tup [], h) else (wrRow h c k off (List.replicate len zero).flatten).map fun h' => (.tup [], h')
      else none
    | _ => none
  | .mmx mx x y => match ρ x, ρ y with
    | .int k a, .int k' b => if k = k' then some (.int k (if mx then (if b > a then b else a) else (if b < a then b else a)), h) else none
    | .str a, .str b => if mx then none else some (.str (if (Op.bytesLess a b || a == b) then a else b), h)
    | _, _ => none

def env (e : Env) : Opd → AV
  | .t n => e.get n
  | .c v => v

def put (e : Env) (d : Option Nat) (v : AV) : Env :=
  match d with
  | some t => e.set t v
  | none => e

def evI (cf : CF) (i : I) (e : Env) (h : AH) : Option (Env × AH) :=
  match i.grd with
  | none => (evOp cf (env e) h i.op).map fun (v, h') => (put e i.dst v, h')
  | some (t, want) => match e.get t with
    | .bool b => if b = want then (evOp cf (env e) h i.op).map fun (v, h') => (put e i.dst v, h') else some (put e i.dst (.tup []), h)
    | .tup [] => some (put e i.dst (.tup []), h)
    | _ => none

def evR (cf : CF) : List I → Env → AH → Option (Env × AH)
  | [], e, h => some (e, h)
  | i :: is, e, h => match evI cf i e h with
    | some (e', h') => evR cf is e' h'
    | none => none

inductive X where
  | normal
  | exit (id : Nat)
  | ret

/-- The state before operation i of a region. -/
def stateAt (cf : CF) (is : List I) (i : Nat) (e : Env) (h : AH) : Option (Env × AH) := evR cf (is.take i) e h

def noCall : CF := fun _ _ _ => none

/-- What operation j reads does not turn by operation i. -/
def Stable (cf : CF) (is : List I) (e : Env) (h : AH) (j i : Nat) : Prop :=
  ∀ o e1 h1 e2 h2 e3 h3, is[j]? = some o → stateAt cf is j e h = some (e1, h1) → stateAt cf is i e h = some (e2, h2) → stateAt cf is (i + 1) e h = some (e3, h3) →
    (evOp noCall (env e1) h2 o.op).map (·.1) = (evOp noCall (env e1) h3 o.op).map (·.1)

open Classical in
/-- Pairs (j, i): a read and what does not turn it; (k, k): a literal that may be laid early. -/
noncomputable def evDraw (cf : CF) (is : List I) (ps : List (Nat × Nat)) (e : Env) (h : AH) : Option (Env × AH) :=
  if ∀ p ∈ ps, p.1 = p.2 ∨ Stable cf is e h p.1 p.2 then evR cf is e h else none

def evLoop (step : Env → AH → Option (X × Env × AH)) : Nat → Env → AH → Option (X × Env × AH)
  | 0, _, _ => none
  | n + 1, e, h => match step e h with
    | some (.normal, e', h') => evLoop step n e' h'
    | r => r

noncomputable def evC (cf : CF) (n : Nat) : C → Env → AH → Option (X × Env × AH)
  | .skip, e, h => some (.normal, e, h)
  | .reg is, e, h => (evR cf is e h).map fun (e', h') => (.normal, e', h')
  | .drw is ps, e, h => (evDraw cf is ps e h).map fun (e', h') => (.normal, e', h')
  | .kl ts c, e, h => evC cf n c (e.dels ts) h
  | .seq a b, e, h => match evC cf n a e h with
    | some (.normal, e', h') => evC cf n b e' h'
    | r => r
  | .cond x a b, e, h => match env e x with
    | .bool t => if t then evC cf n a e h else evC cf n b e h
    | _ => none
  | .blk id c, e, h => match evC cf n c e h with
    | some (.exit id', e', h') => if id' = id then some (.normal, e', h') else some (.exit id', e', h')
    | r => r
  | .loop c, e, h => evLoop (evC cf n c) n e h
  | .exit id, e, h => some (.exit id, e, h)
  | .ret, e, h => some (.ret, e, h)
  | .bad, _, _ => none

def res1 (e : Env) (h : AH) : Res → Option AV
  | .tmp t => some (e.get t)
  | .cell agg n t => match e.get t with
    | .ptr c k off m => if n ≤ m then match rdRow h c k off n with
        | some cs => mkv agg cs
        | none => none
      else none
    | _ => none
def resL (e : Env) (h : AH) : List Res → Option (List AV)
  | [] => some []
  | r :: rs => match res1 e h r, resL e h rs with
    | some v, some vs => some (v :: vs)
    | _, _ => none
def resV (e : Env) (h : AH) (rs : List Res) : Option AV :=
  match resL e h rs with
  | some [v] => some v
  | some vs => some (.tup vs)
  | none => none

abbrev Ext := Nat → Option (CF → List AV → AH → Option (AV × AH))

noncomputable def evF (T : Nat → Option FI) (E : Ext) : Nat → CF
  | 0 => fun _ _ _ => none
  | n + 1 => fun f xs h => match E f with
    | some F => F (evF T E n) xs h
    | none => match T f with
      | some fi => match evC (evF T E n) n fi.body (Env.init 0 xs) h with
        | some (.normal, e, h') => (resV e h' fi.res).map (·, h')
        | some (.ret, e, h') => (resV e h' fi.res).map (·, h')
        | _ => none
      | none => none

end Go.Proofs.YtejhhdpfndiliaaGreatDoor.Ab

/- BODIES of functions as compact literals, written by gen.py. -/
namespace Go.Proofs.YtejhhdpfndiliaaGreatDoor.Ab
open Go

-- lp395_0 HEAD [52, 66, 465, 466, 467] | exit 0: [52, 66] | ret: [4]
/-- laws.FnLinesRanked -/
def lb395_0 : C := .kl [480] (.seq (.reg [⟨some 468, .bin .lss (.t 467) (.t 466), none⟩]) (.seq (.cond (.t 468) (.skip) (.kl [465, 466, 467, 468] (.exit 0))) (.kl [468] (.seq (.blk 1 (.seq (.reg [⟨some 469, .iaddr 2 (.t 465) (.t 467), none⟩, ⟨some 470, .load true 2 (.t 469), none⟩, ⟨some 68, .new [.int .i64 0, .int .i64 0], none⟩, ⟨none, .store 2 (.t 68) (.t 470), none⟩]) (.kl [469, 470] (.seq (.reg [⟨some 472, .mov (.t 66), none⟩, ⟨some 473, .load true 2 (.t 68), none⟩, ⟨some 474, .call 389 [.t 472, .t 473], none⟩, ⟨some 471, .mov (.t 474), none⟩, ⟨some 475, .prj 0 (.t 471), none⟩, ⟨some 476, .prj 1 (.t 471), none⟩, ⟨some 69, .mov (.t 475), none⟩, ⟨some 70, .mov (.t 476), none⟩]) (.kl [66, 68, 471, 472, 473, 474, 475, 476] (.seq (.seq (.reg [⟨some 477, .mov (.t 70), none⟩, ⟨some 478, .un .not (.t 477), none⟩]) (.kl [70, 477] (.cond (.t 478) (.kl [52, 69, 465, 466, 467, 478] (.seq (.reg [⟨some 4, .mov (.c (.bool false)), none⟩]) (.ret))) (.skip)))) (.kl [478] (.reg [⟨some 479, .mov (.t 69), none⟩, ⟨some 66, .mov (.t 479), none⟩])))))))) (.kl [69, 479] (.reg [⟨some 480, .bin .add (.t 467) (.c (.int .i64 1)), none⟩, ⟨some 467, .mov (.t 480), none⟩]))))))
def lp395_0 : C := lb395_0
def fi395 : FI := ⟨.seq (.reg [⟨some 4, .mov (.c (.bool false)), none⟩]) (.kl [4] (.seq (.seq (.reg [⟨some 75, .mov (.t 0), none⟩, ⟨some 76, .mov (.t 1), none⟩, ⟨some 77, .call 22 [.t 75, .t 76], none⟩]) (.kl [75, 76] (.cond (.t 77) (.kl [0, 1, 77] (.seq (.reg [⟨some 4, .mov (.c (.bool true)), none⟩]) (.ret))) (.skip)))) (.kl [77] (.seq (.reg [⟨some 78, .mov (.t 0), none⟩, ⟨some 79, .call 396 [.t 78], none⟩, ⟨some 5, .mov (.t 79), none⟩]) (.kl [0, 78, 79] (.seq (.reg [⟨some 81, .mov (.t 5), none⟩, ⟨some 82, .call 397 [.t 81], none⟩, ⟨some 80, .mov (.t 82), none⟩, ⟨some 83, .prj 0 (.t 80), none⟩, ⟨some 84, .prj 1 (.t 80), none⟩, ⟨some 6, .mov (.t 83), none⟩, ⟨some 7, .mov (.t 84), none⟩]) (.kl [80, 81, 82, 83, 84] (.seq (.reg [⟨some 86, .mov (.t 5), none⟩, ⟨some 87, .call 398 [.t 86], none⟩, ⟨some 85, .mov (.t 87), none⟩, ⟨some 88, .prj 0 (.t 85), none⟩, ⟨some 89, .prj 1 (.t 85), none⟩, ⟨some 8, .mov (.t 88), none⟩, ⟨some 9, .mov (.t 89), none⟩]) (.kl [85, 86, 87, 88, 89] (.seq (.reg [⟨some 91, .mov (.t 5), none⟩, ⟨some 92, .call 399 [.t 91], none⟩, ⟨some 90, .mov (.t 92), none⟩, ⟨some 93, .prj 0 (.t 90), none⟩, ⟨some 94, .prj 1 (.t 90), none⟩, ⟨some 95, .prj 2 (.t 90), none⟩, ⟨some 96, .prj 3 (.t 90), none⟩, ⟨some 10, .mov (.t 93), none⟩, ⟨some 11, .mov (.t 94), none⟩, ⟨some 12, .mov (.t 95), none⟩, ⟨some 13, .mov (.t 96), none⟩]) (.kl [90, 91, 92, 93, 94, 95, 96] (.seq (.reg [⟨some 98, .mov (.t 5), none⟩, ⟨some 99, .call 400 [.t 98], none⟩, ⟨some 97, .mov (.t 99), none⟩, ⟨some 100, .prj 0 (.t 97), none⟩, ⟨some 101, .prj 1 (.t 97), none⟩, ⟨some 102, .prj 2 (.t 97), none⟩, ⟨some 103, .prj 3 (.t 97), none⟩, ⟨some 14, .mov (.t 100), none⟩, ⟨some 15, .mov (.t 101), none⟩, ⟨some 16, .mov (.t 102), none⟩, ⟨some 17, .mov (.t 103), none⟩]) (.kl [97, 98, 99, 100, 101, 102, 103] (.seq (.reg [⟨some 105, .mov (.t 5), none⟩, ⟨some 106, .call 401 [.t 105], none⟩, ⟨some 104, .mov (.t 106), none⟩, ⟨some 107, .prj 0 (.t 104), none⟩, ⟨some 108, .prj 1 (.t 104), none⟩, ⟨some 18, .mov (.t 107), none⟩, ⟨some 19, .mov (.t 108), none⟩]) (.kl [104, 105, 106, 107, 108] (.seq (.reg [⟨some 110, .mov (.t 5), none⟩, ⟨some 111, .call 402 [.t 110], none⟩, ⟨some 109, .mov (.t 111), none⟩, ⟨some 112, .prj 0 (.t 109), none⟩, ⟨some 113, .prj 1 (.t 109), none⟩, ⟨some 20, .mov (.t 112), none⟩, ⟨some 21, .mov (.t 113), none⟩]) (.kl [109, 110, 111, 112, 113] (.seq (.seq (.reg [⟨some 114, .mov (.t 7), none⟩, ⟨some 115, .mov (.t 9), none⟩, ⟨some 116, .beq true (.t 114) (.t 115), none⟩, ⟨some 117, .mov (.t 116), none⟩, ⟨some 118, .mov (.t 6), some (117, false)⟩, ⟨some 119, .mov (.t 8), some (117, false)⟩, ⟨some 120, .bin .neq (.t 118) (.t 119), some (117, false)⟩, ⟨some 121, .pick (.t 117) (.c (.bool true)) (.t 120), none⟩, ⟨some 122, .mov (.t 121), none⟩, ⟨some 123, .mov (.t 13), some (122, false)⟩, ⟨some 124, .mov (.t 17), some (122, false)⟩, ⟨some 125, .beq true (.t 123) (.t 124), some (122, false)⟩, ⟨some 126, .pick (.t 122) (.c (.bool true)) (.t 125), none⟩, ⟨some 127, .mov (.t 126), none⟩, ⟨some 128, .mov (.t 10), some (127, false)⟩, ⟨some 129, .mov (.t 14), some (127, false)⟩, ⟨some 130, .bin .neq (.t 128) (.t 129), some (127, false)⟩, ⟨some 131, .pick (.t 127) (.c (.bool true)) (.t 130), none⟩, ⟨some 132, .mov (.t 131), none⟩, ⟨some 133, .mov (.t 11), some (132, false)⟩, ⟨some 134, .mov (.t 15), some (132, false)⟩, ⟨some 135, .bin .neq (.t 133) (.t 134), some (132, false)⟩, ⟨some 136, .pick (.t 132) (.c (.bool true)) (.t 135), none⟩, ⟨some 137, .mov (.t 136), none⟩, ⟨some 138, .mov (.t 12), some (137, false)⟩, ⟨some 139, .mov (.t 16), some (137, false)⟩, ⟨some 140, .bin .neq (.t 138) (.t 139), some (137, false)⟩, ⟨some 141, .pick (.t 137) (.c (.bool true)) (.t 140), none⟩, ⟨some 142, .mov (.t 141), none⟩, ⟨some 143, .mov (.t 19), some (142, false)⟩, ⟨some 144, .mov (.t 21), some (142, false)⟩, ⟨some 145, .beq true (.t 143) (.t 144), some (142, false)⟩, ⟨some 146, .pick (.t 142) (.c (.bool true)) (.t 145), none⟩, ⟨some 147, .mov (.t 146), none⟩, ⟨some 148, .mov (.t 18), some (147, false)⟩, ⟨some 149, .mov (.t 20), some (147, false)⟩, ⟨some 150, .bin .neq (.t 148) (.t 149), some (147, false)⟩, ⟨some 151, .pick (.t 147) (.c (.bool true)) (.t 150), none⟩, ⟨some 152, .mov (.t 151), none⟩, ⟨some 153, .mov (.t 13), some (152, false)⟩, ⟨some 154, .mov (.t 7), some (152, false)⟩, ⟨some 155, .beq true (.t 153) (.t 154), some (152, false)⟩, ⟨some 156, .pick (.t 152) (.c (.bool true)) (.t 155), none⟩, ⟨some 157, .mov (.t 156), none⟩, ⟨some 158, .mov (.t 19), some (157, false)⟩, ⟨some 159, .mov (.t 7), some (157, false)⟩, ⟨some 160, .beq true (.t 158) (.t 159), some (157, false)⟩, ⟨some 161, .pick (.t 157) (.c (.bool true)) (.t 160), none⟩]) (.kl [8, 9, 13, 14, 15, 16, 17, 19, 20, 21, 114, 115, 116, 117, 118, 119, 120, 121, 122, 123, 124, 125, 126, 127, 128, 129, 130, 131, 132, 133, 134, 135, 136, 137, 138, 139, 140, 141, 142, 143, 144, 145, 146, 147, 148, 149, 150, 151, 152, 153, 154, 155, 156, 157, 158, 159, 160] (.cond (.t 161) (.kl [1, 5, 6, 7, 10, 11, 12, 18, 161] (.seq (.reg [⟨some 4, .mov (.c (.bool false)), none⟩]) (.ret))) (.skip)))) (.kl [161] (.seq (.seq (.reg [⟨some 162, .mov (.t 7), none⟩]) (.kl [7] (.cond (.t 162) (.kl [162] (.seq (.reg [⟨some 164, .mov (.t 10), none⟩, ⟨some 165, .mov (.t 11), none⟩, ⟨some 166, .mov (.t 12), none⟩, ⟨some 167, .call 27 [.t 164, .t 165, .t 166], none⟩, ⟨some 163, .mov (.t 167), none⟩, ⟨some 168, .prj 0 (.t 163), none⟩, ⟨some 169, .prj 1 (.t 163), none⟩, ⟨some 22, .mov (.t 168), none⟩, ⟨some 23, .mov (.t 169), none⟩]) (.kl [163, 164, 165, 166, 167, 168, 169] (.seq (.reg [⟨some 171, .mov (.t 10), none⟩, ⟨some 172, .mov (.t 11), none⟩, ⟨some 173, .mov (.t 12), none⟩, ⟨some 174, .mov (.t 6), none⟩, ⟨some 175, .call 403 [.t 171, .t 172, .t 173, .t 174], none⟩, ⟨some 170, .mov (.t 175), none⟩, ⟨some 176, .prj 0 (.t 170), none⟩, ⟨some 177, .prj 1 (.t 170), none⟩, ⟨some 24, .mov (.t 176), none⟩, ⟨some 25, .mov (.t 177), none⟩]) (.kl [170, 171, 172, 173, 174, 175, 176, 177] (.seq (.reg [⟨some 179, .mov (.t 18), none⟩, ⟨some 180, .call 379 [.t 179], none⟩, ⟨some 178, .mov (.t 180), none⟩, ⟨some 181, .prj 0 (.t 178), none⟩, ⟨some 182, .prj 1 (.t 178), none⟩, ⟨some 26, .mov (.t 181), none⟩, ⟨some 27, .mov (.t 182), none⟩]) (.kl [178, 179, 180, 181, 182] (.seq (.reg [⟨some 184, .mov (.t 18), none⟩, ⟨some 185, .call 399 [.t 184], none⟩, ⟨some 183, .mov (.t 185), none⟩, ⟨some 186, .prj 0 (.t 183), none⟩, ⟨some 187, .prj 1 (.t 183), none⟩, ⟨some 188, .prj 2 (.t 183), none⟩, ⟨some 189, .prj 3 (.t 183), none⟩, ⟨some 28, .mov (.t 186), none⟩, ⟨some 29, .mov (.t 187), none⟩, ⟨some 30, .mov (.t 188), none⟩, ⟨some 31, .mov (.t 189), none⟩]) (.kl [18, 183, 184, 185, 186, 187, 188, 189] (.seq (.seq (.reg [⟨some 190, .mov (.t 23), none⟩, ⟨some 191, .un .not (.t 190), none⟩, ⟨some 192, .mov (.t 191), none⟩, ⟨some 193, .mov (.t 6), some (192, false)⟩, ⟨some 194, .bin .lss (.t 193) (.c (.int .i64 0)), some (192, false)⟩, ⟨some 195, .pick (.t 192) (.c (.bool true)) (.t 194), none⟩, ⟨some 196, .mov (.t 195), none⟩, ⟨some 197, .mov (.t 6), some (196, false)⟩, ⟨some 198, .mov (.t 22), some (196, false)⟩, ⟨some 199, .bin .geq (.t 197) (.t 198), some (196, false)⟩, ⟨some 200, .pick (.t 196) (.c (.bool true)) (.t 199), none⟩, ⟨some 201, .mov (.t 200), none⟩, ⟨some 202, .mov (.t 25), some (201, false)⟩, ⟨some 203, .un .not (.t 202), some (201, false)⟩, ⟨some 204, .pick (.t 201) (.c (.bool true)) (.t 203), none⟩, ⟨some 205, .mov (.t 204), none⟩, ⟨some 206, .mov (.t 24), some (205, false)⟩, ⟨some 207, .mov (.t 5), some (205, false)⟩, ⟨some 208, .bin .neq (.t 206) (.t 207), some (205, false)⟩, ⟨some 209, .pick (.t 205) (.c (.bool true)) (.t 208), none⟩, ⟨some 210, .mov (.t 209), none⟩, ⟨some 211, .mov (.t 10), some (210, false)⟩, ⟨some 212, .mov (.t 11), some (210, false)⟩, ⟨some 213, .bin .add (.t 211) (.t 212), some (210, false)⟩, ⟨some 214, .mov (.t 12), some (210, false)⟩, ⟨some 215, .bin .add (.t 213) (.t 214), some (210, false)⟩, ⟨some 216, .mov (.t 5), some (210, false)⟩, ⟨some 217, .lenS (.t 216), some (210, false)⟩, ⟨some 218, .bin .neq (.t 215) (.t 217), some (210, false)⟩, ⟨some 219, .pick (.t 210) (.c (.bool true)) (.t 218), none⟩, ⟨some 220, .mov (.t 219), none⟩, ⟨some 221, .mov (.t 27), some (220, false)⟩, ⟨some 222, .un .not (.t 221), some (220, false)⟩, ⟨some 223, .pick (.t 220) (.c (.bool true)) (.t 222), none⟩, ⟨some 224, .mov (.t 223), none⟩, ⟨some 225, .mov (.t 26), some (224, false)⟩, ⟨some 226, .bin .neq (.t 225) (.c (.int .i64 0)), some (224, false)⟩, ⟨some 227, .pick (.t 224) (.c (.bool true)) (.t 226), none⟩, ⟨some 228, .mov (.t 227), none⟩, ⟨some 229, .mov (.t 31), some (228, false)⟩, ⟨some 230, .un .not (.t 229), some (228, false)⟩, ⟨some 231, .pick (.t 228) (.c (.bool true)) (.t 230), none⟩, ⟨some 232, .mov (.t 231), none⟩, ⟨some 233, .mov (.t 28), some (232, false)⟩, ⟨some 234, .mov (.t 10), some (232, false)⟩, ⟨some 235, .bin .neq (.t 233) (.t 234), some (232, false)⟩, ⟨some 236, .pick (.t 232) (.c (.bool true)) (.t 235), none⟩, ⟨some 237, .mov (.t 236), none⟩, ⟨some 238, .mov (.t 29), some (237, false)⟩, ⟨some 239, .mov (.t 11), some (237, false)⟩, ⟨some 240, .bin .neq (.t 238) (.t 239), some (237, false)⟩, ⟨some 241, .pick (.t 237) (.c (.bool true)) (.t 240), none⟩, ⟨some 242, .mov (.t 241), none⟩, ⟨some 243, .mov (.t 30), some (242, false)⟩, ⟨some 244, .mov (.t 12), some (242, false)⟩, ⟨some 245, .bin .neq (.t 243) (.t 244), some (242, false)⟩, ⟨some 246, .pick (.t 242) (.c (.bool true)) (.t 245), none⟩]) (.kl [23, 24, 25, 26, 27, 28, 29, 30, 31, 190, 191, 192, 193, 194, 195, 196, 197, 198, 199, 200, 201, 202, 203, 204, 205, 206, 207, 208, 209, 210, 211, 212, 213, 214, 215, 216, 217, 218, 219, 220, 221, 222, 223, 224, 225, 226, 227, 228, 229, 230, 231, 232, 233, 234, 235, 236, 237, 238, 239, 240, 241, 242, 243, 244, 245] (.cond (.t 246) (.kl [1, 5, 6, 10, 11, 12, 22, 246] (.seq (.reg [⟨some 4, .mov (.c (.bool false)), none⟩]) (.ret))) (.skip)))) (.kl [246] (.seq (.reg [⟨some 247, .mov (.t 6), none⟩, ⟨some 248, .bin .add (.t 247) (.c (.int .i64 1)), none⟩, ⟨some 249, .mov (.t 22), none⟩, ⟨some 250, .bin .lss (.t 248) (.t 249), none⟩]) (.kl [22, 247, 248, 249] (.cond (.t 250) (.kl [250] (.seq (.reg [⟨some 252, .mov (.t 10), none⟩, ⟨some 253, .mov (.t 11), none⟩, ⟨some 254, .mov (.t 12), none⟩, ⟨some 255, .mov (.t 6), none⟩, ⟨some 256, .bin .add (.t 255) (.c (.int .i64 1)), none⟩, ⟨some 257, .call 403 [.t 252, .t 253, .t 254, .t 256], none⟩, ⟨some 251, .mov (.t 257), none⟩, ⟨some 258, .prj 0 (.t 251), none⟩, ⟨some 259, .prj 1 (.t 251), none⟩, ⟨some 32, .mov (.t 258), none⟩, ⟨some 33, .mov (.t 259), none⟩]) (.kl [6, 10, 11, 12, 251, 252, 253, 254, 255, 256, 257, 258, 259] (.seq (.reg [⟨some 260, .mov (.t 33), none⟩, ⟨some 261, .un .not (.t 260), none⟩, ⟨some 262, .mov (.t 261), none⟩, ⟨some 263, .mov (.t 32), some (262, false)⟩, ⟨some 264, .mov (.t 5), some (262, false)⟩, ⟨some 265, .bin .leq (.t 263) (.t 264), some (262, false)⟩, ⟨some 266, .pick (.t 262) (.c (.bool true)) (.t 265), none⟩]) (.kl [5, 32, 33, 260, 261, 262, 263, 264, 265] (.cond (.t 266) (.kl [1, 266] (.seq (.reg [⟨some 4, .mov (.c (.bool false)), none⟩]) (.ret))) (.skip))))))) (.skip))))))))))))))) (.skip)))) (.kl [5, 6, 10, 11, 12, 18, 162, 250, 266] (.seq (.reg [⟨some 268, .mov (.t 1), none⟩, ⟨some 269, .call 404 [.t 268], none⟩, ⟨some 267, .mov (.t 269), none⟩, ⟨some 270, .prj 0 (.t 267), none⟩, ⟨some 271, .prj 1 (.t 267), none⟩, ⟨some 272, .prj 2 (.t 267), none⟩, ⟨some 273, .prj 3 (.t 267), none⟩, ⟨some 34, .mov (.t 270), none⟩, ⟨some 35, .mov (.t 271), none⟩, ⟨some 36, .mov (.t 272), none⟩, ⟨some 37, .mov (.t 273), none⟩]) (.kl [267, 268, 269, 270, 271, 272, 273] (.seq (.reg [⟨some 275, .mov (.t 34), none⟩, ⟨some 276, .mov (.t 35), none⟩, ⟨some 277, .mov (.t 36), none⟩, ⟨some 278, .mov (.t 37), none⟩, ⟨some 279, .call 403 [.t 275, .t 276, .t 277, .t 278], none⟩, ⟨some 274, .mov (.t 279), none⟩, ⟨some 280, .prj 0 (.t 274), none⟩, ⟨some 281, .prj 1 (.t 274), none⟩, ⟨some 38, .mov (.t 280), none⟩, ⟨some 39, .mov (.t 281), none⟩]) (.kl [274, 275, 276, 277, 278, 279, 280, 281] (.seq (.reg [⟨some 283, .mov (.t 34), none⟩, ⟨some 284, .mov (.t 35), none⟩, ⟨some 285, .mov (.t 36), none⟩, ⟨some 286, .mov (.t 37), none⟩, ⟨some 287, .call 405 [.t 283, .t 284, .t 285, .t 286], none⟩, ⟨some 282, .mov (.t 287), none⟩, ⟨some 288, .prj 0 (.t 282), none⟩, ⟨some 289, .prj 1 (.t 282), none⟩, ⟨some 40, .mov (.t 288), none⟩, ⟨some 41, .mov (.t 289), none⟩]) (.kl [282, 283, 284, 285, 286, 287, 288, 289] (.seq (.reg [⟨some 291, .mov (.t 34), none⟩, ⟨some 292, .mov (.t 35), none⟩, ⟨some 293, .mov (.t 36), none⟩, ⟨some 294, .call 406 [.t 291, .t 292, .t 293], none⟩, ⟨some 290, .mov (.t 294), none⟩, ⟨some 295, .prj 0 (.t 290), none⟩, ⟨some 296, .prj 1 (.t 290), none⟩, ⟨some 42, .mov (.t 295), none⟩, ⟨some 43, .mov (.t 296), none⟩]) (.kl [290, 291, 292, 293, 294, 295, 296] (.seq (.reg [⟨some 298, .mov (.t 34), none⟩, ⟨some 299, .mov (.t 35), none⟩, ⟨some 300, .mov (.t 36), none⟩, ⟨some 301, .call 407 [.t 298, .t 299, .t 300], none⟩, ⟨some 297, .mov (.t 301), none⟩, ⟨some 302, .prj 0 (.t 297), none⟩, ⟨some 303, .prj 1 (.t 297), none⟩, ⟨some 44, .mov (.t 302), none⟩, ⟨some 45, .mov (.t 303), none⟩]) (.kl [297, 298, 299, 300, 301, 302, 303] (.seq (.reg [⟨some 305, .mov (.t 34), none⟩, ⟨some 306, .mov (.t 35), none⟩, ⟨some 307, .mov (.t 36), none⟩, ⟨some 308, .call 27 [.t 305, .t 306, .t 307], none⟩, ⟨some 304, .mov (.t 308), none⟩, ⟨some 309, .prj 0 (.t 304), none⟩, ⟨some 310, .prj 1 (.t 304), none⟩, ⟨some 46, .mov (.t 309), none⟩, ⟨some 47, .mov (.t 310), none⟩]) (.kl [304, 305, 306, 307, 308, 309, 310] (.seq (.reg [⟨some 312, .mov (.t 34), none⟩, ⟨some 313, .mov (.t 35), none⟩, ⟨some 314, .mov (.t 36), none⟩, ⟨some 315, .call 408 [.t 312, .t 313, .t 314], none⟩, ⟨some 311, .mov (.t 315), none⟩, ⟨some 316, .prj 0 (.t 311), none⟩, ⟨some 317, .prj 1 (.t 311), none⟩, ⟨some 48, .mov (.t 316), none⟩, ⟨some 49, .mov (.t 317), none⟩]) (.kl [311, 312, 313, 314, 315, 316, 317] (.seq (.reg [⟨some 319, .mov (.t 1), none⟩, ⟨some 320, .call 409 [.t 319], none⟩, ⟨some 318, .mov (.t 320), none⟩, ⟨some 321, .prj 0 (.t 318), none⟩, ⟨some 322, .prj 1 (.t 318), none⟩, ⟨some 50, .mov (.t 321), none⟩, ⟨some 51, .mov (.t 322), none⟩]) (.kl [1, 318, 319, 320, 321, 322] (.seq (.reg [⟨some 324, .mov (.t 50), none⟩, ⟨some 325, .mov (.t 51), none⟩, ⟨some 326, .call 410 [.t 324, .t 325], none⟩, ⟨some 323, .mov (.t 326), none⟩, ⟨some 327, .prj 0 (.t 323), none⟩, ⟨some 328, .prj 1 (.t 323), none⟩, ⟨some 52, .mov (.t 327), none⟩, ⟨some 53, .mov (.t 328), none⟩]) (.kl [323, 324, 325, 326, 327, 328] (.seq (.reg [⟨some 330, .mov (.t 50), none⟩, ⟨some 331, .mov (.t 51), none⟩, ⟨some 332, .call 411 [.t 330, .t 331], none⟩, ⟨some 329, .mov (.t 332), none⟩, ⟨some 333, .prj 0 (.t 329), none⟩, ⟨some 334, .prj 1 (.t 329), none⟩, ⟨some 54, .mov (.t 333), none⟩, ⟨some 55, .mov (.t 334), none⟩]) (.kl [329, 330, 331, 332, 333, 334] (.seq (.reg [⟨some 336, .mov (.t 50), none⟩, ⟨some 337, .mov (.t 51), none⟩, ⟨some 338, .call 412 [.t 336, .t 337], none⟩, ⟨some 335, .mov (.t 338), none⟩, ⟨some 339, .prj 0 (.t 335), none⟩, ⟨some 340, .prj 1 (.t 335), none⟩, ⟨some 56, .mov (.t 339), none⟩, ⟨some 57, .mov (.t 340), none⟩]) (.kl [335, 336, 337, 338, 339, 340] (.seq (.reg [⟨some 342, .mov (.t 50), none⟩, ⟨some 343, .mov (.t 51), none⟩, ⟨some 344, .call 413 [.t 342, .t 343], none⟩, ⟨some 341, .mov (.t 344), none⟩, ⟨some 345, .prj 0 (.t 341), none⟩, ⟨some 346, .prj 1 (.t 341), none⟩, ⟨some 58, .mov (.t 345), none⟩, ⟨some 59, .mov (.t 346), none⟩]) (.kl [341, 342, 343, 344, 345, 346] (.seq (.seq (.reg [⟨some 347, .mov (.t 39), none⟩, ⟨some 348, .mov (.t 41), none⟩, ⟨some 349, .beq true (.t 347) (.t 348), none⟩, ⟨some 350, .mov (.t 349), none⟩, ⟨some 351, .mov (.t 38), some (350, false)⟩, ⟨some 352, .mov (.t 40), some (350, false)⟩, ⟨some 353, .bin .neq (.t 351) (.t 352), some (350, false)⟩, ⟨some 354, .pick (.t 350) (.c (.bool true)) (.t 353), none⟩, ⟨some 355, .mov (.t 354), none⟩, ⟨some 356, .mov (.t 43), some (355, false)⟩, ⟨some 357, .mov (.t 45), some (355, false)⟩, ⟨some 358, .beq true (.t 356) (.t 357), some (355, false)⟩, ⟨some 359, .pick (.t 355) (.c (.bool true)) (.t 358), none⟩, ⟨some 360, .mov (.t 359), none⟩, ⟨some 361, .mov (.t 42), some (360, false)⟩, ⟨some 362, .mov (.t 44), some (360, false)⟩, ⟨some 363, .bin .neq (.t 361) (.t 362), some (360, false)⟩, ⟨some 364, .pick (.t 360) (.c (.bool true)) (.t 363), none⟩, ⟨some 365, .mov (.t 364), none⟩, ⟨some 366, .mov (.t 47), some (365, false)⟩, ⟨some 367, .mov (.t 49), some (365, false)⟩, ⟨some 368, .beq true (.t 366) (.t 367), some (365, false)⟩, ⟨some 369, .pick (.t 365) (.c (.bool true)) (.t 368), none⟩, ⟨some 370, .mov (.t 369), none⟩, ⟨some 371, .mov (.t 46), some (370, false)⟩, ⟨some 372, .mov (.t 48), some (370, false)⟩, ⟨some 373, .bin .neq (.t 371) (.t 372), some (370, false)⟩, ⟨some 374, .pick (.t 370) (.c (.bool true)) (.t 373), none⟩, ⟨some 375, .mov (.t 374), none⟩, ⟨some 376, .mov (.t 47), some (375, false)⟩, ⟨some 377, .mov (.t 43), some (375, false)⟩, ⟨some 378, .beq true (.t 376) (.t 377), some (375, false)⟩, ⟨some 379, .pick (.t 375) (.c (.bool true)) (.t 378), none⟩, ⟨some 380, .mov (.t 379), none⟩, ⟨some 381, .mov (.t 53), some (380, false)⟩, ⟨some 382, .mov (.t 55), some (380, false)⟩, ⟨some 383, .beq true (.t 381) (.t 382), some (380, false)⟩, ⟨some 384, .pick (.t 380) (.c (.bool true)) (.t 383), none⟩, ⟨some 385, .mov (.t 384), none⟩, ⟨some 386, .mov (.t 52), some (385, false)⟩, ⟨some 387, .mov (.t 54), some (385, false)⟩, ⟨some 388, .bin .neq (.t 386) (.t 387), some (385, false)⟩, ⟨some 389, .pick (.t 385) (.c (.bool true)) (.t 388), none⟩, ⟨some 390, .mov (.t 389), none⟩, ⟨some 391, .mov (.t 57), some (390, false)⟩, ⟨some 392, .mov (.t 59), some (390, false)⟩, ⟨some 393, .beq true (.t 391) (.t 392), some (390, false)⟩, ⟨some 394, .pick (.t 390) (.c (.bool true)) (.t 393), none⟩, ⟨some 395, .mov (.t 394), none⟩, ⟨some 396, .mov (.t 56), some (395, false)⟩, ⟨some 397, .mov (.t 58), some (395, false)⟩, ⟨some 398, .bin .neq (.t 396) (.t 397), some (395, false)⟩, ⟨some 399, .pick (.t 395) (.c (.bool true)) (.t 398), none⟩, ⟨some 400, .mov (.t 399), none⟩, ⟨some 401, .mov (.t 53), some (400, false)⟩, ⟨some 402, .mov (.t 401), some (400, false)⟩, ⟨some 403, .mov (.t 57), some (402, true)⟩, ⟨some 404, .pick (.t 402) (.t 403) (.c (.bool false)), some (400, false)⟩, ⟨some 405, .pick (.t 400) (.c (.bool true)) (.t 404), none⟩]) (.kl [40, 41, 44, 45, 47, 48, 49, 54, 55, 58, 59, 347, 348, 349, 350, 351, 352, 353, 354, 355, 356, 357, 358, 359, 360, 361, 362, 363, 364, 365, 366, 367, 368, 369, 370, 371, 372, 373, 374, 375, 376, 377, 378, 379, 380, 381, 382, 383, 384, 385, 386, 387, 388, 389, 390, 391, 392, 393, 394, 395, 396, 397, 398, 399, 400, 401, 402, 403, 404] (.cond (.t 405) (.kl [34, 35, 36, 37, 38, 39, 42, 43, 46, 50, 51, 52, 53, 56, 57, 405] (.seq (.reg [⟨some 4, .mov (.c (.bool false)), none⟩]) (.ret))) (.skip)))) (.kl [405] (.seq (.seq (.reg [⟨some 406, .mov (.t 39), none⟩]) (.kl [39] (.cond (.t 406) (.kl [406] (.seq (.reg [⟨some 408, .mov (.t 38), none⟩, ⟨some 409, .call 397 [.t 408], none⟩, ⟨some 407, .mov (.t 409), none⟩, ⟨some 410, .prj 0 (.t 407), none⟩, ⟨some 411, .prj 1 (.t 407), none⟩, ⟨some 60, .mov (.t 410), none⟩, ⟨some 61, .mov (.t 411), none⟩]) (.kl [38, 407, 408, 409, 410, 411] (.seq (.reg [⟨some 412, .mov (.t 61), none⟩, ⟨some 413, .un .not (.t 412), none⟩, ⟨some 414, .mov (.t 413), none⟩, ⟨some 415, .mov (.t 60), some (414, false)⟩, ⟨some 416, .mov (.t 37), some (414, false)⟩, ⟨some 417, .bin .neq (.t 415) (.t 416), some (414, false)⟩, ⟨some 418, .pick (.t 414) (.c (.bool true)) (.t 417), none⟩, ⟨some 419, .mov (.t 418), none⟩, ⟨some 420, .mov (.t 37), some (419, false)⟩, ⟨some 421, .mov (.t 46), some (419, false)⟩, ⟨some 422, .bin .geq (.t 420) (.t 421), some (419, false)⟩, ⟨some 423, .pick (.t 419) (.c (.bool true)) (.t 422), none⟩]) (.kl [37, 46, 60, 61, 412, 413, 414, 415, 416, 417, 418, 419, 420, 421, 422] (.cond (.t 423) (.kl [34, 35, 36, 42, 43, 50, 51, 52, 53, 56, 57, 423] (.seq (.reg [⟨some 4, .mov (.c (.bool false)), none⟩]) (.ret))) (.skip))))))) (.skip)))) (.kl [37, 38, 46, 406, 423] (.seq (.seq (.reg [⟨some 424, .mov (.t 43), none⟩]) (.kl [43] (.cond (.t 424) (.kl [424] (.seq (.reg [⟨some 426, .mov (.t 42), none⟩, ⟨some 427, .call 381 [.t 426], none⟩, ⟨some 425, .mov (.t 427), none⟩, ⟨some 428, .prj 0 (.t 425), none⟩, ⟨some 429, .prj 1 (.t 425), none⟩, ⟨some 62, .mov (.t 428), none⟩, ⟨some 63, .mov (.t 429), none⟩]) (.kl [425, 426, 427, 428, 429] (.seq (.reg [⟨some 431, .mov (.t 42), none⟩, ⟨some 432, .call 379 [.t 431], none⟩, ⟨some 430, .mov (.t 432), none⟩, ⟨some 433, .prj 0 (.t 430), none⟩, ⟨some 434, .prj 1 (.t 430), none⟩, ⟨some 64, .mov (.t 433), none⟩, ⟨some 65, .mov (.t 434), none⟩]) (.kl [42, 430, 431, 432, 433, 434] (.seq (.reg [⟨some 435, .mov (.t 63), none⟩, ⟨some 436, .un .not (.t 435), none⟩, ⟨some 437, .mov (.t 436), none⟩, ⟨some 438, .mov (.t 62), some (437, false)⟩, ⟨some 439, .mov (.t 34), some (437, false)⟩, ⟨some 440, .mov (.t 36), some (437, false)⟩, ⟨some 441, .bin .mul (.t 439) (.t 440), some (437, false)⟩, ⟨some 442, .bin .neq (.t 438) (.t 441), some (437, false)⟩, ⟨some 443, .pick (.t 437) (.c (.bool true)) (.t 442), none⟩, ⟨some 444, .mov (.t 443), none⟩, ⟨some 445, .mov (.t 65), some (444, false)⟩, ⟨some 446, .un .not (.t 445), some (444, false)⟩, ⟨some 447, .pick (.t 444) (.c (.bool true)) (.t 446), none⟩, ⟨some 448, .mov (.t 447), none⟩, ⟨some 449, .mov (.t 64), some (448, false)⟩, ⟨some 450, .mov (.t 34), some (448, false)⟩, ⟨some 451, .mov (.t 35), some (448, false)⟩, ⟨some 452, .mov (.t 36), some (448, false)⟩, ⟨some 453, .bin .add (.t 451) (.t 452), some (448, false)⟩, ⟨some 454, .bin .mul (.t 450) (.t 453), some (448, false)⟩, ⟨some 455, .mov (.t 36), some (448, false)⟩, ⟨some 456, .mov (.t 34), some (448, false)⟩, ⟨some 457, .mov (.t 35), some (448, false)⟩, ⟨some 458, .bin .add (.t 456) (.t 457), some (448, false)⟩, ⟨some 459, .bin .mul (.t 455) (.t 458), some (448, false)⟩, ⟨some 460, .bin .add (.t 454) (.t 459), some (448, false)⟩, ⟨some 461, .bin .neq (.t 449) (.t 460), some (448, false)⟩, ⟨some 462, .pick (.t 448) (.c (.bool true)) (.t 461), none⟩]) (.kl [34, 35, 36, 62, 63, 64, 65, 435, 436, 437, 438, 439, 440, 441, 442, 443, 444, 445, 446, 447, 448, 449, 450, 451, 452, 453, 454, 455, 456, 457, 458, 459, 460, 461] (.cond (.t 462) (.kl [50, 51, 52, 53, 56, 57, 462] (.seq (.reg [⟨some 4, .mov (.c (.bool false)), none⟩]) (.ret))) (.skip))))))))) (.skip)))) (.kl [34, 35, 36, 42, 424, 462] (.seq (.seq (.reg [⟨some 463, .mov (.t 53), none⟩]) (.kl [53] (.cond (.t 463) (.kl [56, 57, 463] (.seq (.reg [⟨some 464, .mov (.t 50), none⟩, ⟨some 66, .mov (.t 464), none⟩]) (.kl [50, 464] (.seq (.seq (.reg [⟨some 465, .mov (.t 51), none⟩, ⟨some 466, .lenV (.t 465), none⟩, ⟨some 467, .mov (.c (.int .i64 0)), none⟩]) (.kl [51] (.blk 0 (.loop lp395_0)))) (.seq (.reg [⟨some 481, .mov (.t 66), none⟩, ⟨some 482, .mov (.t 52), none⟩, ⟨some 483, .bin .eql (.t 481) (.t 482), none⟩, ⟨some 4, .mov (.t 483), none⟩]) (.kl [52, 66, 481, 482, 483] (.ret))))))) (.skip)))) (.kl [52, 463] (.seq (.seq (.reg [⟨some 484, .mov (.t 57), none⟩]) (.kl [57] (.cond (.t 484) (.kl [484] (.seq (.reg [⟨some 486, .mov (.t 50), none⟩, ⟨some 487, .mov (.t 51), none⟩, ⟨some 488, .mov (.t 56), none⟩, ⟨some 489, .sub 2 (.t 487) none (some (.t 488)), none⟩, ⟨some 490, .call 410 [.t 486, .t 489], none⟩, ⟨some 485, .mov (.t 490), none⟩, ⟨some 491, .prj 0 (.t 485), none⟩, ⟨some 492, .prj 1 (.t 485), none⟩, ⟨some 71, .mov (.t 491), none⟩, ⟨some 72, .mov (.t 492), none⟩]) (.kl [50, 485, 486, 487, 488, 489, 490, 491, 492] (.seq (.reg [⟨some 494, .mov (.t 71), none⟩, ⟨some 495, .mov (.t 51), none⟩, ⟨some 496, .mov (.t 56), none⟩, ⟨some 497, .iaddr 2 (.t 495) (.t 496), none⟩, ⟨some 498, .load true 2 (.t 497), none⟩, ⟨some 499, .call 388 [.t 494, .t 498], none⟩, ⟨some 493, .mov (.t 499), none⟩, ⟨some 500, .prj 0 (.t 493), none⟩, ⟨some 501, .prj 1 (.t 493), none⟩, ⟨some 73, .mov (.t 500), none⟩, ⟨some 74, .mov (.t 501), none⟩]) (.kl [51, 56, 71, 493, 494, 495, 496, 497, 498, 499, 500, 501] (.seq (.reg [⟨some 502, .mov (.t 72), none⟩, ⟨some 503, .mov (.t 502), none⟩, ⟨some 504, .mov (.t 74), some (503, true)⟩, ⟨some 505, .pick (.t 503) (.t 504) (.c (.bool false)), none⟩, ⟨some 506, .mov (.t 505), none⟩, ⟨some 507, .mov (.t 73), some (506, true)⟩, ⟨some 508, .un .not (.t 507), some (506, true)⟩, ⟨some 509, .pick (.t 506) (.t 508) (.c (.bool false)), none⟩, ⟨some 4, .mov (.t 509), none⟩]) (.kl [72, 73, 74, 502, 503, 504, 505, 506, 507, 508, 509] (.ret)))))))) (.skip)))) (.kl [50, 51, 56, 484] (.seq (.reg [⟨some 4, .mov (.c (.bool true)), none⟩]) (.ret))))))))))))))))))))))))))))))))))))))))))))))))))))))))), [.tmp 4]⟩
/-- laws.big -/
def fi22 : FI := ⟨.seq (.reg [⟨some 4, .mov (.c (.bool false)), none⟩]) (.kl [4] (.seq (.reg [⟨some 5, .mov (.t 0), none⟩, ⟨some 6, .lenV (.t 5), none⟩, ⟨some 7, .bin .gtr (.t 6) (.c (.int .i64 1048576)), none⟩, ⟨some 8, .mov (.t 7), none⟩, ⟨some 9, .mov (.t 1), some (8, false)⟩, ⟨some 10, .lenV (.t 9), some (8, false)⟩, ⟨some 11, .mov (.t 0), some (8, false)⟩, ⟨some 12, .lenV (.t 11), some (8, false)⟩, ⟨some 13, .bin .sub (.c (.int .i64 1048576)) (.t 12), some (8, false)⟩, ⟨some 14, .bin .gtr (.t 10) (.t 13), some (8, false)⟩, ⟨some 15, .pick (.t 8) (.c (.bool true)) (.t 14), none⟩, ⟨some 4, .mov (.t 15), none⟩]) (.kl [0, 1, 5, 6, 7, 8, 9, 10, 11, 12, 13, 14, 15] (.ret)))), [.tmp 4]⟩
/-- spec.DrawRankOfLine -/
def fi396 : FI := ⟨.seq (.reg [⟨some 2, .mov (.c (.str [])), none⟩]) (.kl [2] (.seq (.reg [⟨some 3, .mov (.t 0), none⟩, ⟨some 4, .call 434 [.t 3], none⟩, ⟨some 2, .mov (.t 4), none⟩]) (.kl [0, 3, 4] (.ret)))), [.tmp 2]⟩
-- lp397_0 HEAD [0, 7, 8, 25, 26] | exit 0: [8]
/-- impl.RankOfLine -/
def lb397_0 : C := .kl [43] (.seq (.reg [⟨some 27, .bin .lss (.t 26) (.t 25), none⟩]) (.seq (.cond (.t 27) (.skip) (.kl [0, 7, 25, 26, 27] (.exit 0))) (.kl [27] (.seq (.blk 1 (.seq (.reg [⟨some 28, .mov (.t 26), none⟩, ⟨some 9, .mov (.t 28), none⟩]) (.kl [28] (.seq (.reg [⟨some 29, .mov (.t 0), none⟩, ⟨some 30, .mov (.t 9), none⟩, ⟨some 31, .idxS (.t 29) (.t 30), none⟩, ⟨some 32, .call 190 [.c (.str [46, 70, 84]), .t 31], none⟩, ⟨some 10, .mov (.t 32), none⟩]) (.kl [9, 29, 30, 31, 32] (.seq (.reg [⟨some 33, .mov (.t 8), none⟩, ⟨some 34, .load true 3 (.t 7), none⟩, ⟨some 35, .mov (.t 10), none⟩, ⟨some 36, .call 439 [.t 34, .t 35], none⟩, ⟨some 37, .bin .add (.t 33) (.t 36), none⟩, ⟨some 8, .mov (.t 37), none⟩]) (.kl [33, 34, 35, 36, 37] (.reg [⟨some 38, .mov (.t 10), none⟩, ⟨some 39, .iaddrA 3 1 (.t 7) (.t 38), none⟩, ⟨some 40, .load false 1 (.t 39), none⟩, ⟨some 41, .bin .sub (.t 40) (.c (.int .i64 1)), none⟩, ⟨some 42, .iaddrA 3 1 (.t 7) (.t 38), none⟩, ⟨none, .store 1 (.t 42) (.t 41), none⟩])))))))) (.kl [10, 38, 39, 40, 41, 42] (.reg [⟨some 43, .bin .add (.t 26) (.c (.int .i64 1)), none⟩, ⟨some 26, .mov (.t 43), none⟩]))))))
def lp397_0 : C := lb397_0
def fi397 : FI := ⟨.seq (.reg [⟨some 2, .mov (.c (.int .i64 0)), none⟩, ⟨some 3, .mov (.c (.bool false)), none⟩]) (.kl [2, 3] (.seq (.seq (.reg [⟨some 11, .mov (.t 0), none⟩, ⟨some 12, .call 106 [.t 11], none⟩, ⟨some 13, .un .not (.t 12), none⟩]) (.kl [11, 12] (.cond (.t 13) (.kl [0, 13] (.seq (.reg [⟨some 2, .mov (.c (.int .i64 0)), none⟩, ⟨some 3, .mov (.c (.bool false)), none⟩]) (.ret))) (.skip)))) (.kl [13] (.seq (.reg [⟨some 15, .mov (.t 0), none⟩, ⟨some 16, .call 189 [.t 15], none⟩, ⟨some 14, .mov (.t 16), none⟩, ⟨some 17, .prj 0 (.t 14), none⟩, ⟨some 18, .prj 1 (.t 14), none⟩, ⟨some 19, .prj 2 (.t 14), none⟩, ⟨some 4, .mov (.t 17), none⟩, ⟨some 5, .mov (.t 18), none⟩, ⟨some 6, .mov (.t 19), none⟩]) (.kl [14, 15, 16, 17, 18, 19] (.seq (.reg [⟨some 20, .mov (.t 5), none⟩, ⟨some 21, .mov (.t 6), none⟩, ⟨some 22, .mov (.t 4), none⟩, ⟨some 23, .build [.int .i64 0, .int .i64 0, .int .i64 0] [(0, 1, .t 20), (1, 1, .t 21), (2, 1, .t 22)], none⟩, ⟨some 7, .new [.int .i64 0, .int .i64 0, .int .i64 0], none⟩, ⟨none, .store 3 (.t 7) (.t 23), none⟩, ⟨some 8, .mov (.c (.int .i64 0)), none⟩]) (.kl [4, 5, 6, 20, 21, 22, 23] (.seq (.seq (.reg [⟨some 24, .mov (.t 0), none⟩, ⟨some 25, .lenS (.t 24), none⟩, ⟨some 26, .mov (.c (.int .i64 0)), none⟩]) (.kl [24] (.blk 0 (.loop lp397_0)))) (.seq (.reg [⟨some 44, .mov (.t 8), none⟩, ⟨some 2, .mov (.t 44), none⟩, ⟨some 3, .mov (.c (.bool true)), none⟩]) (.kl [8, 44] (.ret))))))))))), [.tmp 2, .tmp 3]⟩
-- lp398_0 HEAD [0, 4, 5, 6, 7, 8] | exit 0: [4]
/-- spec.RankOfLine -/
def lb398_0 : C := .kl [22, 23] (.seq (.seq (.reg [⟨some 18, .mov (.t 8), none⟩, ⟨some 19, .mov (.t 0), none⟩, ⟨some 20, .lenS (.t 19), none⟩, ⟨some 21, .bin .lss (.t 18) (.t 20), none⟩]) (.kl [18, 19, 20] (.cond (.t 21) (.skip) (.kl [0, 5, 6, 7, 8, 21] (.exit 0))))) (.kl [21] (.seq (.blk 1 (.seq (.reg [⟨some 24, .mov (.t 0), none⟩, ⟨some 25, .mov (.t 8), none⟩, ⟨some 26, .idxS (.t 24) (.t 25), none⟩]) (.kl [24, 25] (.blk 2 (.seq (.reg [⟨some 43, .bin .eql (.t 26) (.c (.int .u8 46)), none⟩, ⟨some 42, .mov (.t 43), none⟩]) (.kl [43] (.cond (.t 42) (.kl [26, 42] (.reg [⟨some 44, .mov (.t 6), none⟩, ⟨some 45, .bin .sub (.t 44) (.c (.int .i64 1)), none⟩, ⟨some 6, .mov (.t 45), none⟩])) (.kl [42] (.seq (.reg [⟨some 47, .bin .eql (.t 26) (.c (.int .u8 70)), none⟩, ⟨some 46, .mov (.t 47), none⟩]) (.kl [26, 47] (.cond (.t 46) (.kl [46] (.seq (.reg [⟨some 48, .mov (.t 4), none⟩, ⟨some 49, .mov (.t 5), none⟩, ⟨some 50, .mov (.t 6), none⟩, ⟨some 51, .bin .sub (.t 50) (.c (.int .i64 1)), none⟩, ⟨some 52, .mov (.t 7), none⟩, ⟨some 53, .call 440 [.t 49, .t 51, .t 52], none⟩, ⟨some 54, .bin .add (.t 48) (.t 53), none⟩, ⟨some 4, .mov (.t 54), none⟩]) (.kl [48, 49, 50, 51, 52, 53, 54] (.reg [⟨some 55, .mov (.t 7), none⟩, ⟨some 56, .bin .sub (.t 55) (.c (.int .i64 1)), none⟩, ⟨some 7, .mov (.t 56), none⟩])))) (.kl [46] (.seq (.reg [⟨some 27, .mov (.t 4), none⟩, ⟨some 28, .mov (.t 5), none⟩, ⟨some 29, .mov (.t 6), none⟩, ⟨some 30, .bin .sub (.t 29) (.c (.int .i64 1)), none⟩, ⟨some 31, .mov (.t 7), none⟩, ⟨some 32, .call 440 [.t 28, .t 30, .t 31], none⟩, ⟨some 33, .mov (.t 5), none⟩, ⟨some 34, .mov (.t 6), none⟩, ⟨some 35, .mov (.t 7), none⟩, ⟨some 36, .bin .sub (.t 35) (.c (.int .i64 1)), none⟩, ⟨some 37, .call 440 [.t 33, .t 34, .t 36], none⟩, ⟨some 38, .bin .add (.t 32) (.t 37), none⟩, ⟨some 39, .bin .add (.t 27) (.t 38), none⟩, ⟨some 4, .mov (.t 39), none⟩]) (.kl [27, 28, 29, 30, 31, 32, 33, 34, 35, 36, 37, 38, 39] (.reg [⟨some 40, .mov (.t 5), none⟩, ⟨some 41, .bin .sub (.t 40) (.c (.int .i64 1)), none⟩, ⟨some 5, .mov (.t 41), none⟩]))))))))))))))) (.kl [40, 41, 44, 45, 55, 56] (.reg [⟨some 22, .mov (.t 8), none⟩, ⟨some 23, .bin .add (.t 22) (.c (.int .i64 1)), none⟩, ⟨some 8, .mov (.t 23), none⟩])))))
def lp398_0 : C := lb398_0
def fi398 : FI := ⟨.seq (.reg [⟨some 2, .mov (.c (.int .i64 0)), none⟩, ⟨some 3, .mov (.c (.bool false)), none⟩]) (.kl [2, 3] (.seq (.seq (.reg [⟨some 9, .mov (.t 0), none⟩, ⟨some 10, .call 104 [.t 9], none⟩, ⟨some 11, .un .not (.t 10), none⟩]) (.kl [9, 10] (.cond (.t 11) (.kl [0, 11] (.seq (.reg [⟨some 2, .mov (.c (.int .i64 0)), none⟩, ⟨some 3, .mov (.c (.bool false)), none⟩]) (.ret))) (.skip)))) (.kl [11] (.seq (.reg [⟨some 4, .mov (.c (.int .i64 0)), none⟩]) (.seq (.reg [⟨some 12, .mov (.t 0), none⟩, ⟨some 13, .call 116 [.t 12, .c (.int .u8 84)], none⟩, ⟨some 14, .mov (.t 0), none⟩, ⟨some 15, .call 116 [.t 14, .c (.int .u8 46)], none⟩, ⟨some 16, .mov (.t 0), none⟩, ⟨some 17, .call 116 [.t 16, .c (.int .u8 70)], none⟩, ⟨some 5, .mov (.t 13), none⟩, ⟨some 6, .mov (.t 15), none⟩, ⟨some 7, .mov (.t 17), none⟩]) (.kl [12, 13, 14, 15, 16, 17] (.seq (.seq (.reg [⟨some 8, .mov (.c (.int .i64 0)), none⟩]) (.blk 0 (.loop lp398_0))) (.seq (.reg [⟨some 57, .mov (.t 4), none⟩, ⟨some 2, .mov (.t 57), none⟩, ⟨some 3, .mov (.c (.bool true)), none⟩]) (.kl [4, 57] (.ret)))))))))), [.tmp 2, .tmp 3]⟩
/-- impl.CountOf -/
def fi399 : FI := ⟨.seq (.reg [⟨some 2, .mov (.c (.int .i64 0)), none⟩, ⟨some 3, .mov (.c (.int .i64 0)), none⟩, ⟨some 4, .mov (.c (.int .i64 0)), none⟩, ⟨some 5, .mov (.c (.bool false)), none⟩]) (.kl [2, 3, 4, 5] (.seq (.seq (.reg [⟨some 9, .mov (.t 0), none⟩, ⟨some 10, .call 106 [.t 9], none⟩, ⟨some 11, .un .not (.t 10), none⟩]) (.kl [9, 10] (.cond (.t 11) (.kl [0, 11] (.seq (.reg [⟨some 2, .mov (.c (.int .i64 0)), none⟩, ⟨some 3, .mov (.c (.int .i64 0)), none⟩, ⟨some 4, .mov (.c (.int .i64 0)), none⟩, ⟨some 5, .mov (.c (.bool false)), none⟩]) (.ret))) (.skip)))) (.kl [11] (.seq (.reg [⟨some 13, .mov (.t 0), none⟩, ⟨some 14, .call 189 [.t 13], none⟩, ⟨some 12, .mov (.t 14), none⟩, ⟨some 15, .prj 0 (.t 12), none⟩, ⟨some 16, .prj 1 (.t 12), none⟩, ⟨some 17, .prj 2 (.t 12), none⟩, ⟨some 6, .mov (.t 15), none⟩, ⟨some 7, .mov (.t 16), none⟩, ⟨some 8, .mov (.t 17), none⟩]) (.kl [0, 12, 13, 14, 15, 16, 17] (.seq (.reg [⟨some 18, .mov (.t 6), none⟩, ⟨some 19, .mov (.t 7), none⟩, ⟨some 20, .mov (.t 8), none⟩, ⟨some 2, .mov (.t 18), none⟩, ⟨some 3, .mov (.t 19), none⟩, ⟨some 4, .mov (.t 20), none⟩, ⟨some 5, .mov (.c (.bool true)), none⟩]) (.kl [6, 7, 8, 18, 19, 20] (.ret)))))))), [.tmp 2, .tmp 3, .tmp 4, .tmp 5]⟩
/-- spec.CountOf -/
def fi400 : FI := ⟨.seq (.reg [⟨some 2, .mov (.c (.int .i64 0)), none⟩, ⟨some 3, .mov (.c (.int .i64 0)), none⟩, ⟨some 4, .mov (.c (.int .i64 0)), none⟩, ⟨some 5, .mov (.c (.bool false)), none⟩]) (.kl [2, 3, 4, 5] (.seq (.seq (.reg [⟨some 6, .mov (.t 0), none⟩, ⟨some 7, .call 104 [.t 6], none⟩, ⟨some 8, .un .not (.t 7), none⟩]) (.kl [6, 7] (.cond (.t 8) (.kl [0, 8] (.seq (.reg [⟨some 2, .mov (.c (.int .i64 0)), none⟩, ⟨some 3, .mov (.c (.int .i64 0)), none⟩, ⟨some 4, .mov (.c (.int .i64 0)), none⟩, ⟨some 5, .mov (.c (.bool false)), none⟩]) (.ret))) (.skip)))) (.kl [8] (.seq (.reg [⟨some 9, .mov (.t 0), none⟩, ⟨some 10, .call 116 [.t 9, .c (.int .u8 84)], none⟩, ⟨some 11, .mov (.t 0), none⟩, ⟨some 12, .call 116 [.t 11, .c (.int .u8 46)], none⟩, ⟨some 13, .mov (.t 0), none⟩, ⟨some 14, .call 116 [.t 13, .c (.int .u8 70)], none⟩, ⟨some 2, .mov (.t 10), none⟩, ⟨some 3, .mov (.t 12), none⟩, ⟨some 4, .mov (.t 14), none⟩, ⟨some 5, .mov (.c (.bool true)), none⟩]) (.kl [0, 9, 10, 11, 12, 13, 14] (.ret)))))), [.tmp 2, .tmp 3, .tmp 4, .tmp 5]⟩
/-- impl.LastLine -/
def fi401 : FI := ⟨.seq (.reg [⟨some 2, .mov (.c (.str [])), none⟩, ⟨some 3, .mov (.c (.bool false)), none⟩]) (.kl [2, 3] (.seq (.seq (.reg [⟨some 4, .mov (.t 0), none⟩, ⟨some 5, .call 106 [.t 4], none⟩, ⟨some 6, .un .not (.t 5), none⟩]) (.kl [4, 5] (.cond (.t 6) (.kl [0, 6] (.seq (.reg [⟨some 2, .mov (.c (.str [])), none⟩, ⟨some 3, .mov (.c (.bool false)), none⟩]) (.ret))) (.skip)))) (.kl [6] (.seq (.reg [⟨some 7, .mov (.t 0), none⟩, ⟨some 8, .call 237 [.t 7], none⟩, ⟨some 2, .mov (.t 8), none⟩, ⟨some 3, .mov (.c (.bool true)), none⟩]) (.kl [0, 7, 8] (.ret)))))), [.tmp 2, .tmp 3]⟩
/-- spec.LastLine -/
def fi402 : FI := ⟨.seq (.reg [⟨some 2, .mov (.c (.str [])), none⟩, ⟨some 3, .mov (.c (.bool false)), none⟩]) (.kl [2, 3] (.seq (.seq (.reg [⟨some 4, .mov (.t 0), none⟩, ⟨some 5, .call 104 [.t 4], none⟩, ⟨some 6, .un .not (.t 5), none⟩]) (.kl [4, 5] (.cond (.t 6) (.kl [0, 6] (.seq (.reg [⟨some 2, .mov (.c (.str [])), none⟩, ⟨some 3, .mov (.c (.bool false)), none⟩]) (.ret))) (.skip)))) (.kl [6] (.seq (.reg [⟨some 7, .mov (.t 0), none⟩, ⟨some 8, .call 251 [.t 7], none⟩, ⟨some 2, .mov (.t 8), none⟩, ⟨some 3, .mov (.c (.bool true)), none⟩]) (.kl [0, 7, 8] (.ret)))))), [.tmp 2, .tmp 3]⟩
/-- impl.CountLines -/
def fi27 : FI := ⟨.seq (.reg [⟨some 6, .mov (.c (.int .i64 0)), none⟩, ⟨some 7, .mov (.c (.bool false)), none⟩]) (.kl [6, 7] (.seq (.seq (.reg [⟨some 8, .mov (.t 0), none⟩, ⟨some 9, .mov (.t 1), none⟩, ⟨some 10, .mov (.t 2), none⟩, ⟨some 11, .call 92 [.t 8, .t 9, .t 10, .c (.int .i64 12)], none⟩, ⟨some 12, .un .not (.t 11), none⟩]) (.kl [8, 9, 10, 11] (.cond (.t 12) (.kl [0, 1, 2, 12] (.seq (.reg [⟨some 6, .mov (.c (.int .i64 0)), none⟩, ⟨some 7, .mov (.c (.bool false)), none⟩]) (.ret))) (.skip)))) (.kl [12] (.seq (.reg [⟨some 13, .mov (.t 0), none⟩, ⟨some 14, .mov (.t 1), none⟩, ⟨some 15, .mov (.t 2), none⟩, ⟨some 16, .call 91 [.t 13, .t 14, .t 15], none⟩, ⟨some 6, .mov (.t 16), none⟩, ⟨some 7, .mov (.c (.bool true)), none⟩]) (.kl [0, 1, 2, 13, 14, 15, 16] (.ret)))))), [.tmp 6, .tmp 7]⟩
-- lp403_0 HEAD [3, 10, 11, 37, 38] | exit 0: [11] | exit 2: [3, 10, 11, 12, 37, 38]
-- lp403_1 HEAD [3, 10, 11, 12, 37, 38] | exit 2: [3, 10, 11, 12, 37, 38]
/-- impl.LineOfRank -/
def lb403_1 : C := .kl [51, 52] (.seq (.seq (.reg [⟨some 40, .mov (.t 12), none⟩, ⟨some 41, .iaddrA 3 1 (.t 10) (.t 40), none⟩, ⟨some 42, .load false 1 (.t 41), none⟩, ⟨some 43, .bin .eql (.t 42) (.c (.int .i64 0)), none⟩, ⟨some 44, .mov (.t 43), none⟩, ⟨some 45, .load true 3 (.t 10), some (44, false)⟩, ⟨some 46, .mov (.t 12), some (44, false)⟩, ⟨some 47, .call 439 [.t 45, .t 46], some (44, false)⟩, ⟨some 48, .mov (.t 3), some (44, false)⟩, ⟨some 49, .bin .gtr (.t 47) (.t 48), some (44, false)⟩, ⟨some 50, .pick (.t 44) (.c (.bool true)) (.t 49), none⟩]) (.kl [40, 41, 42, 43, 44, 45, 46, 47, 48, 49] (.cond (.t 50) (.skip) (.kl [50] (.exit 2))))) (.kl [50] (.blk 3 (.reg [⟨some 51, .mov (.t 12), none⟩, ⟨some 52, .bin .sub (.t 51) (.c (.int .i64 1)), none⟩, ⟨some 12, .mov (.t 52), none⟩]))))
def lp403_1 : C := lb403_1
def lb403_0 : C := .kl [68] (.seq (.reg [⟨some 39, .bin .lss (.t 38) (.t 37), none⟩]) (.seq (.cond (.t 39) (.skip) (.kl [3, 10, 37, 38, 39] (.exit 0))) (.kl [39] (.seq (.blk 1 (.seq (.reg [⟨some 12, .mov (.c (.int .i64 2)), none⟩]) (.seq (.blk 2 (.loop lp403_1)) (.seq (.reg [⟨some 53, .mov (.t 3), none⟩, ⟨some 54, .load true 3 (.t 10), none⟩, ⟨some 55, .mov (.t 12), none⟩, ⟨some 56, .call 439 [.t 54, .t 55], none⟩, ⟨some 57, .bin .sub (.t 53) (.t 56), none⟩, ⟨some 3, .mov (.t 57), none⟩]) (.kl [53, 54, 55, 56, 57] (.seq (.reg [⟨some 58, .mov (.t 12), none⟩, ⟨some 59, .iaddrA 3 1 (.t 10) (.t 58), none⟩, ⟨some 60, .load false 1 (.t 59), none⟩, ⟨some 61, .bin .sub (.t 60) (.c (.int .i64 1)), none⟩, ⟨some 62, .iaddrA 3 1 (.t 10) (.t 58), none⟩, ⟨none, .store 1 (.t 62) (.t 61), none⟩]) (.kl [58, 59, 60, 61, 62] (.reg [⟨some 63, .mov (.t 11), none⟩, ⟨some 64, .mov (.t 12), none⟩, ⟨some 65, .idxS (.c (.str [46, 70, 84])) (.t 64), none⟩, ⟨some 66, .lit 1 1 [.int .u8 0] [(0, 1, .t 65)], none⟩, ⟨some 67, .app 1 (.t 63) (.t 66), none⟩, ⟨some 11, .mov (.t 67), none⟩])))))))) (.kl [12, 63, 64, 65, 66, 67] (.reg [⟨some 68, .bin .add (.t 38) (.c (.int .i64 1)), none⟩, ⟨some 38, .mov (.t 68), none⟩]))))))
def lp403_0 : C := lb403_0
def fi403 : FI := ⟨.seq (.reg [⟨some 8, .mov (.c (.str [])), none⟩, ⟨some 9, .mov (.c (.bool false)), none⟩]) (.kl [8, 9] (.seq (.seq (.reg [⟨some 13, .mov (.t 0), none⟩, ⟨some 14, .mov (.t 1), none⟩, ⟨some 15, .mov (.t 2), none⟩, ⟨some 16, .call 92 [.t 13, .t 14, .t 15, .c (.int .i64 12)], none⟩, ⟨some 17, .un .not (.t 16), none⟩, ⟨some 18, .mov (.t 17), none⟩, ⟨some 19, .mov (.t 3), some (18, false)⟩, ⟨some 20, .mov (.t 0), some (18, false)⟩, ⟨some 21, .mov (.t 1), some (18, false)⟩, ⟨some 22, .mov (.t 2), some (18, false)⟩, ⟨some 23, .call 91 [.t 20, .t 21, .t 22], some (18, false)⟩, ⟨some 24, .bin .sub (.t 23) (.c (.int .i64 1)), some (18, false)⟩, ⟨some 25, .call 74 [.t 19, .c (.int .i64 0), .t 24], some (18, false)⟩, ⟨some 26, .un .not (.t 25), some (18, false)⟩, ⟨some 27, .pick (.t 18) (.c (.bool true)) (.t 26), none⟩]) (.kl [13, 14, 15, 16, 17, 18, 19, 20, 21, 22, 23, 24, 25, 26] (.cond (.t 27) (.kl [0, 1, 2, 3, 27] (.seq (.reg [⟨some 8, .mov (.c (.str [])), none⟩, ⟨some 9, .mov (.c (.bool false)), none⟩]) (.ret))) (.skip)))) (.kl [27] (.seq (.reg [⟨some 28, .mov (.t 1), none⟩, ⟨some 29, .mov (.t 2), none⟩, ⟨some 30, .mov (.t 0), none⟩, ⟨some 31, .build [.int .i64 0, .int .i64 0, .int .i64 0] [(0, 1, .t 28), (1, 1, .t 29), (2, 1, .t 30)], none⟩, ⟨some 32, .lit0, none⟩, ⟨some 10, .new [.int .i64 0, .int .i64 0, .int .i64 0], none⟩, ⟨none, .store 3 (.t 10) (.t 31), none⟩, ⟨some 11, .mov (.t 32), none⟩]) (.kl [28, 29, 30, 31, 32] (.seq (.seq (.reg [⟨some 33, .mov (.t 0), none⟩, ⟨some 34, .mov (.t 1), none⟩, ⟨some 35, .bin .add (.t 33) (.t 34), none⟩, ⟨some 36, .mov (.t 2), none⟩, ⟨some 37, .bin .add (.t 35) (.t 36), none⟩, ⟨some 38, .mov (.c (.int .i64 0)), none⟩]) (.kl [0, 1, 2, 33, 34, 35, 36] (.blk 0 (.loop lp403_0)))) (.seq (.reg [⟨some 69, .mov (.t 11), none⟩, ⟨some 70, .ofB (.t 69), none⟩, ⟨some 8, .mov (.t 70), none⟩, ⟨some 9, .mov (.c (.bool true)), none⟩]) (.kl [11, 69, 70] (.ret))))))))), [.tmp 8, .tmp 9]⟩
/-- impl.WayToGo -/
def fi379 : FI := ⟨.seq (.reg [⟨some 2, .mov (.c (.int .i64 0)), none⟩, ⟨some 3, .mov (.c (.bool false)), none⟩]) (.kl [2, 3] (.seq (.seq (.reg [⟨some 4, .mov (.t 0), none⟩, ⟨some 5, .call 106 [.t 4], none⟩, ⟨some 6, .un .not (.t 5), none⟩]) (.kl [4, 5] (.cond (.t 6) (.kl [0, 6] (.seq (.reg [⟨some 2, .mov (.c (.int .i64 0)), none⟩, ⟨some 3, .mov (.c (.bool false)), none⟩]) (.ret))) (.skip)))) (.kl [6] (.seq (.reg [⟨some 7, .mov (.t 0), none⟩, ⟨some 8, .call 305 [.t 7], none⟩, ⟨some 2, .mov (.t 8), none⟩, ⟨some 3, .mov (.c (.bool true)), none⟩]) (.kl [0, 7, 8] (.ret)))))), [.tmp 2, .tmp 3]⟩
/-- spec.DrawLineOfRank -/
def fi404 : FI := ⟨.seq (.reg [⟨some 2, .mov (.c (.int .i64 0)), none⟩, ⟨some 3, .mov (.c (.int .i64 0)), none⟩, ⟨some 4, .mov (.c (.int .i64 0)), none⟩, ⟨some 5, .mov (.c (.int .i64 0)), none⟩]) (.kl [2, 3, 4, 5] (.seq (.reg [⟨some 10, .mov (.t 0), none⟩, ⟨some 11, .build [.nilS, .int .i64 0, .int .u64 0] [(0, 1, .t 10)], none⟩, ⟨some 12, .box (.t 11), none⟩, ⟨some 6, .mov (.t 12), none⟩]) (.kl [0, 10, 11, 12] (.seq (.reg [⟨some 14, .mov (.t 6), none⟩, ⟨some 15, .call 441 [.t 14], none⟩, ⟨some 13, .mov (.t 15), none⟩, ⟨some 16, .prj 0 (.t 13), none⟩, ⟨some 17, .prj 1 (.t 13), none⟩, ⟨some 18, .prj 2 (.t 13), none⟩, ⟨some 7, .mov (.t 16), none⟩, ⟨some 8, .mov (.t 17), none⟩, ⟨some 9, .mov (.t 18), none⟩]) (.kl [13, 14, 15, 16, 17, 18] (.seq (.seq (.reg [⟨some 19, .mov (.t 7), none⟩, ⟨some 20, .mov (.t 8), none⟩, ⟨some 21, .mov (.t 9), none⟩, ⟨some 22, .call 442 [.t 19, .t 20, .t 21], none⟩, ⟨some 23, .un .not (.t 22), none⟩]) (.kl [19, 20, 21, 22] (.cond (.t 23) (.kl [6, 23] (.seq (.reg [⟨some 24, .mov (.t 7), none⟩, ⟨some 25, .mov (.t 8), none⟩, ⟨some 26, .mov (.t 9), none⟩, ⟨some 2, .mov (.t 24), none⟩, ⟨some 3, .mov (.t 25), none⟩, ⟨some 4, .mov (.t 26), none⟩, ⟨some 5, .mov (.c (.int .i64 0)), none⟩]) (.kl [7, 8, 9, 24, 25, 26] (.ret)))) (.skip)))) (.kl [23] (.seq (.reg [⟨some 27, .mov (.t 7), none⟩, ⟨some 28, .mov (.t 8), none⟩, ⟨some 29, .mov (.t 9), none⟩, ⟨some 30, .mov (.t 6), none⟩, ⟨some 31, .mov (.t 7), none⟩, ⟨some 32, .mov (.t 8), none⟩, ⟨some 33, .mov (.t 9), none⟩, ⟨some 34, .call 440 [.t 31, .t 32, .t 33], none⟩, ⟨some 35, .bin .add (.t 34) (.c (.int .i64 1)), none⟩, ⟨some 36, .call 63 [.t 30, .t 35], none⟩, ⟨some 37, .mov (.t 6), none⟩, ⟨some 38, .call 63 [.t 37, .c (.int .i64 8)], none⟩, ⟨some 39, .bin .quo (.t 38) (.c (.int .i64 7)), none⟩, ⟨some 40, .bin .sub (.t 36) (.t 39), none⟩, ⟨some 2, .mov (.t 27), none⟩, ⟨some 3, .mov (.t 28), none⟩, ⟨some 4, .mov (.t 29), none⟩, ⟨some 5, .mov (.t 40), none⟩]) (.kl [6, 7, 8, 9, 27, 28, 29, 30, 31, 32, 33, 34, 35, 36, 37, 38, 39, 40] (.ret)))))))))), [.tmp 2, .tmp 3, .tmp 4, .tmp 5]⟩
-- lp405_0 HEAD [0, 1, 2, 3, 10] | exit 0: [10]
/-- spec.LineOfRank -/
def lb405_0 : C := .kl [51, 52, 59, 60, 72, 73] (.seq (.seq (.reg [⟨some 28, .mov (.t 0), none⟩, ⟨some 29, .mov (.t 1), none⟩, ⟨some 30, .bin .add (.t 28) (.t 29), none⟩, ⟨some 31, .mov (.t 2), none⟩, ⟨some 32, .bin .add (.t 30) (.t 31), none⟩, ⟨some 33, .bin .gtr (.t 32) (.c (.int .i64 0)), none⟩]) (.kl [28, 29, 30, 31, 32] (.cond (.t 33) (.skip) (.kl [0, 1, 2, 3, 33] (.exit 0))))) (.kl [33] (.blk 1 (.seq (.reg [⟨some 34, .mov (.t 0), none⟩, ⟨some 35, .mov (.t 1), none⟩, ⟨some 36, .bin .sub (.t 35) (.c (.int .i64 1)), none⟩, ⟨some 37, .mov (.t 2), none⟩, ⟨some 38, .call 440 [.t 34, .t 36, .t 37], none⟩, ⟨some 39, .mov (.t 0), none⟩, ⟨some 40, .mov (.t 1), none⟩, ⟨some 41, .mov (.t 2), none⟩, ⟨some 42, .bin .sub (.t 41) (.c (.int .i64 1)), none⟩, ⟨some 43, .call 440 [.t 39, .t 40, .t 42], none⟩, ⟨some 11, .mov (.t 38), none⟩, ⟨some 12, .mov (.t 43), none⟩]) (.kl [34, 35, 36, 37, 38, 39, 40, 41, 42, 43] (.blk 2 (.seq (.reg [⟨some 54, .mov (.t 3), none⟩, ⟨some 55, .mov (.t 11), none⟩, ⟨some 56, .bin .lss (.t 54) (.t 55), none⟩, ⟨some 53, .mov (.t 56), none⟩]) (.kl [54, 55, 56] (.cond (.t 53) (.kl [11, 12, 53] (.seq (.reg [⟨some 57, .mov (.t 10), none⟩, ⟨some 58, .bin .add (.t 57) (.c (.str [46])), none⟩, ⟨some 10, .mov (.t 58), none⟩]) (.kl [57, 58] (.reg [⟨some 59, .mov (.t 1), none⟩, ⟨some 60, .bin .sub (.t 59) (.c (.int .i64 1)), none⟩, ⟨some 1, .mov (.t 60), none⟩])))) (.kl [53] (.seq (.reg [⟨some 62, .mov (.t 3), none⟩, ⟨some 63, .mov (.t 11), none⟩, ⟨some 64, .mov (.t 12), none⟩, ⟨some 65, .bin .add (.t 63) (.t 64), none⟩, ⟨some 66, .bin .lss (.t 62) (.t 65), none⟩, ⟨some 61, .mov (.t 66), none⟩]) (.kl [62, 63, 64, 65, 66] (.cond (.t 61) (.kl [12, 61] (.seq (.reg [⟨some 67, .mov (.t 10), none⟩, ⟨some 68, .bin .add (.t 67) (.c (.str [70])), none⟩, ⟨some 10, .mov (.t 68), none⟩]) (.kl [67, 68] (.seq (.reg [⟨some 69, .mov (.t 3), none⟩, ⟨some 70, .mov (.t 11), none⟩, ⟨some 71, .bin .sub (.t 69) (.t 70), none⟩, ⟨some 3, .mov (.t 71), none⟩]) (.kl [11, 69, 70, 71] (.reg [⟨some 72, .mov (.t 2), none⟩, ⟨some 73, .bin .sub (.t 72) (.c (.int .i64 1)), none⟩, ⟨some 2, .mov (.t 73), none⟩])))))) (.kl [61] (.seq (.reg [⟨some 44, .mov (.t 10), none⟩, ⟨some 45, .bin .add (.t 44) (.c (.str [84])), none⟩, ⟨some 10, .mov (.t 45), none⟩]) (.kl [44, 45] (.seq (.reg [⟨some 46, .mov (.t 3), none⟩, ⟨some 47, .mov (.t 11), none⟩, ⟨some 48, .mov (.t 12), none⟩, ⟨some 49, .bin .add (.t 47) (.t 48), none⟩, ⟨some 50, .bin .sub (.t 46) (.t 49), none⟩, ⟨some 3, .mov (.t 50), none⟩]) (.kl [11, 12, 46, 47, 48, 49, 50] (.reg [⟨some 51, .mov (.t 0), none⟩, ⟨some 52, .bin .sub (.t 51) (.c (.int .i64 1)), none⟩, ⟨some 0, .mov (.t 52), none⟩])))))))))))))))))))
def lp405_0 : C := lb405_0
def fi405 : FI := ⟨.seq (.reg [⟨some 8, .mov (.c (.str [])), none⟩, ⟨some 9, .mov (.c (.bool false)), none⟩]) (.kl [8, 9] (.seq (.seq (.reg [⟨some 13, .mov (.t 0), none⟩, ⟨some 14, .mov (.t 1), none⟩, ⟨some 15, .mov (.t 2), none⟩, ⟨some 16, .call 442 [.t 13, .t 14, .t 15], none⟩, ⟨some 17, .un .not (.t 16), none⟩, ⟨some 18, .mov (.t 17), none⟩, ⟨some 19, .mov (.t 3), some (18, false)⟩, ⟨some 20, .mov (.t 0), some (18, false)⟩, ⟨some 21, .mov (.t 1), some (18, false)⟩, ⟨some 22, .mov (.t 2), some (18, false)⟩, ⟨some 23, .call 440 [.t 20, .t 21, .t 22], some (18, false)⟩, ⟨some 24, .bin .sub (.t 23) (.c (.int .i64 1)), some (18, false)⟩, ⟨some 25, .call 77 [.t 19, .c (.int .i64 0), .t 24], some (18, false)⟩, ⟨some 26, .un .not (.t 25), some (18, false)⟩, ⟨some 27, .pick (.t 18) (.c (.bool true)) (.t 26), none⟩]) (.kl [13, 14, 15, 16, 17, 18, 19, 20, 21, 22, 23, 24, 25, 26] (.cond (.t 27) (.kl [0, 1, 2, 3, 27] (.seq (.reg [⟨some 8, .mov (.c (.str [])), none⟩, ⟨some 9, .mov (.c (.bool false)), none⟩]) (.ret))) (.skip)))) (.kl [27] (.seq (.reg [⟨some 10, .mov (.c (.str [])), none⟩]) (.seq (.blk 0 (.loop lp405_0)) (.seq (.reg [⟨some 74, .mov (.t 10), none⟩, ⟨some 8, .mov (.t 74), none⟩, ⟨some 9, .mov (.c (.bool true)), none⟩]) (.kl [10, 74] (.ret)))))))), [.tmp 8, .tmp 9]⟩
/-- impl.FirstLine -/
def fi406 : FI := ⟨.seq (.reg [⟨some 6, .mov (.c (.str [])), none⟩, ⟨some 7, .mov (.c (.bool false)), none⟩]) (.kl [6, 7] (.seq (.seq (.reg [⟨some 8, .mov (.t 0), none⟩, ⟨some 9, .mov (.t 1), none⟩, ⟨some 10, .mov (.t 2), none⟩, ⟨some 11, .call 92 [.t 8, .t 9, .t 10, .c (.int .i64 12)], none⟩, ⟨some 12, .un .not (.t 11), none⟩]) (.kl [8, 9, 10, 11] (.cond (.t 12) (.kl [0, 1, 2, 12] (.seq (.reg [⟨some 6, .mov (.c (.str [])), none⟩, ⟨some 7, .mov (.c (.bool false)), none⟩]) (.ret))) (.skip)))) (.kl [12] (.seq (.reg [⟨some 13, .mov (.t 0), none⟩, ⟨some 14, .mov (.t 1), none⟩, ⟨some 15, .mov (.t 2), none⟩, ⟨some 16, .call 253 [.t 13, .t 14, .t 15], none⟩, ⟨some 6, .mov (.t 16), none⟩, ⟨some 7, .mov (.c (.bool true)), none⟩]) (.kl [0, 1, 2, 13, 14, 15, 16] (.ret)))))), [.tmp 6, .tmp 7]⟩
/-- spec.FirstLine -/
def fi407 : FI := ⟨.seq (.reg [⟨some 6, .mov (.c (.str [])), none⟩, ⟨some 7, .mov (.c (.bool false)), none⟩]) (.kl [6, 7] (.seq (.seq (.reg [⟨some 8, .mov (.t 0), none⟩, ⟨some 9, .mov (.t 1), none⟩, ⟨some 10, .mov (.t 2), none⟩, ⟨some 11, .call 442 [.t 8, .t 9, .t 10], none⟩, ⟨some 12, .un .not (.t 11), none⟩]) (.kl [8, 9, 10, 11] (.cond (.t 12) (.kl [0, 1, 2, 12] (.seq (.reg [⟨some 6, .mov (.c (.str [])), none⟩, ⟨some 7, .mov (.c (.bool false)), none⟩]) (.ret))) (.skip)))) (.kl [12] (.seq (.reg [⟨some 13, .mov (.t 0), none⟩, ⟨some 14, .mov (.t 1), none⟩, ⟨some 15, .mov (.t 2), none⟩, ⟨some 16, .call 100 [.t 13, .t 14, .t 15], none⟩, ⟨some 6, .mov (.t 16), none⟩, ⟨some 7, .mov (.c (.bool true)), none⟩]) (.kl [0, 1, 2, 13, 14, 15, 16] (.ret)))))), [.tmp 6, .tmp 7]⟩
/-- spec.CountLines -/
def fi408 : FI := ⟨.seq (.reg [⟨some 6, .mov (.c (.int .i64 0)), none⟩, ⟨some 7, .mov (.c (.bool false)), none⟩]) (.kl [6, 7] (.seq (.seq (.reg [⟨some 8, .mov (.t 0), none⟩, ⟨some 9, .mov (.t 1), none⟩, ⟨some 10, .mov (.t 2), none⟩, ⟨some 11, .call 442 [.t 8, .t 9, .t 10], none⟩, ⟨some 12, .un .not (.t 11), none⟩]) (.kl [8, 9, 10, 11] (.cond (.t 12) (.kl [0, 1, 2, 12] (.seq (.reg [⟨some 6, .mov (.c (.int .i64 0)), none⟩, ⟨some 7, .mov (.c (.bool false)), none⟩]) (.ret))) (.skip)))) (.kl [12] (.seq (.reg [⟨some 13, .mov (.t 0), none⟩, ⟨some 14, .mov (.t 1), none⟩, ⟨some 15, .mov (.t 2), none⟩, ⟨some 16, .call 440 [.t 13, .t 14, .t 15], none⟩, ⟨some 6, .mov (.t 16), none⟩, ⟨some 7, .mov (.c (.bool true)), none⟩]) (.kl [0, 1, 2, 13, 14, 15, 16] (.ret)))))), [.tmp 6, .tmp 7]⟩
/-- spec.DrawPlayMoves -/
def fi409 : FI := ⟨.seq (.reg [⟨some 2, .mov (.c (.str [])), none⟩, ⟨some 3, .mov (.c (.nilS)), none⟩]) (.kl [2, 3] (.seq (.reg [⟨some 6, .mov (.t 0), none⟩, ⟨some 7, .build [.nilS, .int .i64 0, .int .u64 0] [(0, 1, .t 6)], none⟩, ⟨some 8, .box (.t 7), none⟩, ⟨some 4, .mov (.t 8), none⟩]) (.kl [0, 6, 7, 8] (.seq (.reg [⟨some 9, .mov (.t 4), none⟩, ⟨some 10, .call 101 [.t 9], none⟩, ⟨some 5, .mov (.t 10), none⟩]) (.kl [9, 10] (.seq (.reg [⟨some 11, .mov (.t 5), none⟩, ⟨some 12, .mov (.t 4), none⟩, ⟨some 13, .mov (.t 5), none⟩, ⟨some 14, .call 443 [.t 12, .t 13, .c (.int .i64 12)], none⟩, ⟨some 2, .mov (.t 11), none⟩, ⟨some 3, .mov (.t 14), none⟩]) (.kl [4, 5, 11, 12, 13, 14] (.ret)))))))), [.tmp 2, .tmp 3]⟩
/-- impl.PlayMoves -/
def fi410 : FI := ⟨.seq (.reg [⟨some 4, .mov (.c (.str [])), none⟩, ⟨some 5, .mov (.c (.bool false)), none⟩]) (.kl [4, 5] (.seq (.seq (.reg [⟨some 8, .mov (.t 0), none⟩, ⟨some 9, .call 106 [.t 8], none⟩, ⟨some 10, .un .not (.t 9), none⟩, ⟨some 11, .mov (.t 10), none⟩, ⟨some 12, .mov (.t 1), some (11, false)⟩, ⟨some 13, .lenV (.t 12), some (11, false)⟩, ⟨some 14, .bin .gtr (.t 13) (.c (.int .i64 100)), some (11, false)⟩, ⟨some 15, .pick (.t 11) (.c (.bool true)) (.t 14), none⟩]) (.kl [8, 9, 10, 11, 12, 13, 14] (.cond (.t 15) (.kl [0, 1, 15] (.seq (.reg [⟨some 4, .mov (.c (.str [])), none⟩, ⟨some 5, .mov (.c (.bool false)), none⟩]) (.ret))) (.skip)))) (.kl [15] (.seq (.reg [⟨some 17, .mov (.t 0), none⟩, ⟨some 18, .mov (.t 1), none⟩, ⟨some 19, .call 68 [.t 17, .t 18, .c (.fn 435 [])], none⟩, ⟨some 16, .mov (.t 19), none⟩, ⟨some 20, .prj 0 (.t 16), none⟩, ⟨some 21, .prj 1 (.t 16), none⟩, ⟨some 6, .mov (.t 20), none⟩, ⟨some 7, .mov (.t 21), none⟩]) (.kl [0, 16, 17, 18, 19, 20, 21] (.seq (.reg [⟨some 22, .mov (.t 6), none⟩, ⟨some 23, .mov (.t 7), none⟩, ⟨some 24, .mov (.t 1), none⟩, ⟨some 25, .lenV (.t 24), none⟩, ⟨some 26, .bin .eql (.t 23) (.t 25), none⟩, ⟨some 4, .mov (.t 22), none⟩, ⟨some 5, .mov (.t 26), none⟩]) (.kl [1, 6, 7, 22, 23, 24, 25, 26] (.ret)))))))), [.tmp 4, .tmp 5]⟩
/-- spec.PlayMoves -/
def fi411 : FI := ⟨.seq (.reg [⟨some 4, .mov (.c (.str [])), none⟩, ⟨some 5, .mov (.c (.bool false)), none⟩]) (.kl [4, 5] (.seq (.seq (.reg [⟨some 8, .mov (.t 0), none⟩, ⟨some 9, .mov (.t 1), none⟩, ⟨some 10, .call 444 [.t 8, .t 9], none⟩, ⟨some 11, .un .not (.t 10), none⟩]) (.kl [8, 9, 10] (.cond (.t 11) (.kl [0, 1, 11] (.seq (.reg [⟨some 4, .mov (.c (.str [])), none⟩, ⟨some 5, .mov (.c (.bool false)), none⟩]) (.ret))) (.skip)))) (.kl [11] (.seq (.reg [⟨some 13, .mov (.t 0), none⟩, ⟨some 14, .mov (.t 1), none⟩, ⟨some 15, .call 445 [.t 13, .t 14], none⟩, ⟨some 12, .mov (.t 15), none⟩, ⟨some 16, .prj 0 (.t 12), none⟩, ⟨some 17, .prj 1 (.t 12), none⟩, ⟨some 6, .mov (.t 16), none⟩, ⟨some 7, .mov (.t 17), none⟩]) (.kl [0, 12, 13, 14, 15, 16, 17] (.seq (.seq (.reg [⟨some 18, .mov (.t 7), none⟩, ⟨some 19, .mov (.t 1), none⟩, ⟨some 20, .lenV (.t 19), none⟩, ⟨some 21, .bin .lss (.t 18) (.t 20), none⟩]) (.kl [1, 7, 18, 19, 20] (.cond (.t 21) (.kl [6, 21] (.seq (.reg [⟨some 4, .mov (.c (.str [])), none⟩, ⟨some 5, .mov (.c (.bool false)), none⟩]) (.ret))) (.skip)))) (.kl [21] (.seq (.reg [⟨some 22, .mov (.t 6), none⟩, ⟨some 4, .mov (.t 22), none⟩, ⟨some 5, .mov (.c (.bool true)), none⟩]) (.kl [6, 22] (.ret)))))))))), [.tmp 4, .tmp 5]⟩
/-- impl.MoveThatFails -/
def fi412 : FI := ⟨.seq (.reg [⟨some 4, .mov (.c (.int .i64 0)), none⟩, ⟨some 5, .mov (.c (.bool false)), none⟩]) (.kl [4, 5] (.seq (.seq (.reg [⟨some 8, .mov (.t 0), none⟩, ⟨some 9, .call 106 [.t 8], none⟩, ⟨some 10, .un .not (.t 9), none⟩, ⟨some 11, .mov (.t 10), none⟩, ⟨some 12, .mov (.t 1), some (11, false)⟩, ⟨some 13, .lenV (.t 12), some (11, false)⟩, ⟨some 14, .bin .gtr (.t 13) (.c (.int .i64 100)), some (11, false)⟩, ⟨some 15, .pick (.t 11) (.c (.bool true)) (.t 14), none⟩]) (.kl [8, 9, 10, 11, 12, 13, 14] (.cond (.t 15) (.kl [0, 1, 15] (.seq (.reg [⟨some 4, .mov (.c (.int .i64 0)), none⟩, ⟨some 5, .mov (.c (.bool false)), none⟩]) (.ret))) (.skip)))) (.kl [15] (.seq (.reg [⟨some 17, .mov (.t 0), none⟩, ⟨some 18, .mov (.t 1), none⟩, ⟨some 19, .call 68 [.t 17, .t 18, .c (.fn 435 [])], none⟩, ⟨some 16, .mov (.t 19), none⟩, ⟨some 20, .prj 0 (.t 16), none⟩, ⟨some 21, .prj 1 (.t 16), none⟩, ⟨some 6, .mov (.t 20), none⟩, ⟨some 7, .mov (.t 21), none⟩]) (.kl [0, 6, 16, 17, 18, 19, 20, 21] (.seq (.seq (.reg [⟨some 22, .mov (.t 7), none⟩, ⟨some 23, .mov (.t 1), none⟩, ⟨some 24, .lenV (.t 23), none⟩, ⟨some 25, .bin .eql (.t 22) (.t 24), none⟩]) (.kl [1, 22, 23, 24] (.cond (.t 25) (.kl [7, 25] (.seq (.reg [⟨some 4, .mov (.c (.int .i64 0)), none⟩, ⟨some 5, .mov (.c (.bool false)), none⟩]) (.ret))) (.skip)))) (.kl [25] (.seq (.reg [⟨some 26, .mov (.t 7), none⟩, ⟨some 4, .mov (.t 26), none⟩, ⟨some 5, .mov (.c (.bool true)), none⟩]) (.kl [7, 26] (.ret)))))))))), [.tmp 4, .tmp 5]⟩
/-- spec.MoveThatFails -/
def fi413 : FI := ⟨.seq (.reg [⟨some 4, .mov (.c (.int .i64 0)), none⟩, ⟨some 5, .mov (.c (.bool false)), none⟩]) (.kl [4, 5] (.seq (.seq (.reg [⟨some 8, .mov (.t 0), none⟩, ⟨some 9, .mov (.t 1), none⟩, ⟨some 10, .call 444 [.t 8, .t 9], none⟩, ⟨some 11, .un .not (.t 10), none⟩]) (.kl [8, 9, 10] (.cond (.t 11) (.kl [0, 1, 11] (.seq (.reg [⟨some 4, .mov (.c (.int .i64 0)), none⟩, ⟨some 5, .mov (.c (.bool false)), none⟩]) (.ret))) (.skip)))) (.kl [11] (.seq (.reg [⟨some 13, .mov (.t 0), none⟩, ⟨some 14, .mov (.t 1), none⟩, ⟨some 15, .call 445 [.t 13, .t 14], none⟩, ⟨some 12, .mov (.t 15), none⟩, ⟨some 16, .prj 0 (.t 12), none⟩, ⟨some 17, .prj 1 (.t 12), none⟩, ⟨some 6, .mov (.t 16), none⟩, ⟨some 7, .mov (.t 17), none⟩]) (.kl [0, 6, 12, 13, 14, 15, 16, 17] (.seq (.seq (.reg [⟨some 18, .mov (.t 7), none⟩, ⟨some 19, .mov (.t 1), none⟩, ⟨some 20, .lenV (.t 19), none⟩, ⟨some 21, .bin .eql (.t 18) (.t 20), none⟩]) (.kl [1, 18, 19, 20] (.cond (.t 21) (.kl [7, 21] (.seq (.reg [⟨some 4, .mov (.c (.int .i64 0)), none⟩, ⟨some 5, .mov (.c (.bool false)), none⟩]) (.ret))) (.skip)))) (.kl [21] (.seq (.reg [⟨some 22, .mov (.t 7), none⟩, ⟨some 4, .mov (.t 22), none⟩, ⟨some 5, .mov (.c (.bool true)), none⟩]) (.kl [7, 22] (.ret)))))))))), [.tmp 4, .tmp 5]⟩
/-- impl.PairsToPass -/
def fi381 : FI := ⟨.seq (.reg [⟨some 2, .mov (.c (.int .i64 0)), none⟩, ⟨some 3, .mov (.c (.bool false)), none⟩]) (.kl [2, 3] (.seq (.seq (.reg [⟨some 4, .mov (.t 0), none⟩, ⟨some 5, .call 106 [.t 4], none⟩, ⟨some 6, .un .not (.t 5), none⟩]) (.kl [4, 5] (.cond (.t 6) (.kl [0, 6] (.seq (.reg [⟨some 2, .mov (.c (.int .i64 0)), none⟩, ⟨some 3, .mov (.c (.bool false)), none⟩]) (.ret))) (.skip)))) (.kl [6] (.seq (.reg [⟨some 7, .mov (.t 0), none⟩, ⟨some 8, .call 191 [.t 7], none⟩, ⟨some 2, .mov (.t 8), none⟩, ⟨some 3, .mov (.c (.bool true)), none⟩]) (.kl [0, 7, 8] (.ret)))))), [.tmp 2, .tmp 3]⟩
/-- impl.MakeMove -/
def fi389 : FI := ⟨.seq (.reg [⟨some 3, .box (.t 1), none⟩, ⟨some 4, .mov (.c (.str [])), none⟩, ⟨some 5, .mov (.c (.bool false)), none⟩]) (.kl [1, 4, 5] (.seq (.seq (.reg [⟨some 6, .mov (.t 0), none⟩, ⟨some 7, .call 106 [.t 6], none⟩, ⟨some 8, .un .not (.t 7), none⟩, ⟨some 9, .mov (.t 8), none⟩, ⟨some 10, .mov (.t 0), some (9, false)⟩, ⟨some 11, .load true 2 (.t 3), some (9, false)⟩, ⟨some 12, .call 435 [.t 10, .t 11], some (9, false)⟩, ⟨some 13, .un .not (.t 12), some (9, false)⟩, ⟨some 14, .pick (.t 9) (.c (.bool true)) (.t 13), none⟩]) (.kl [6, 7, 8, 9, 10, 11, 12, 13] (.cond (.t 14) (.kl [0, 3, 14] (.seq (.reg [⟨some 4, .mov (.c (.str [])), none⟩, ⟨some 5, .mov (.c (.bool false)), none⟩]) (.ret))) (.skip)))) (.kl [14] (.seq (.reg [⟨some 15, .mov (.t 0), none⟩, ⟨some 16, .load true 2 (.t 3), none⟩, ⟨some 17, .call 61 [.t 15, .t 16], none⟩, ⟨some 4, .mov (.t 17), none⟩, ⟨some 5, .mov (.c (.bool true)), none⟩]) (.kl [0, 3, 15, 16, 17] (.ret)))))), [.tmp 4, .tmp 5]⟩
/-- impl.CanMove -/
def fi388 : FI := ⟨.seq (.reg [⟨some 3, .box (.t 1), none⟩, ⟨some 4, .mov (.c (.bool false)), none⟩, ⟨some 5, .mov (.c (.bool false)), none⟩]) (.kl [1, 4, 5] (.seq (.seq (.reg [⟨some 6, .mov (.t 0), none⟩, ⟨some 7, .call 106 [.t 6], none⟩, ⟨some 8, .un .not (.t 7), none⟩]) (.kl [6, 7] (.cond (.t 8) (.kl [0, 3, 8] (.seq (.reg [⟨some 4, .mov (.c (.bool false)), none⟩, ⟨some 5, .mov (.c (.bool false)), none⟩]) (.ret))) (.skip)))) (.kl [8] (.seq (.reg [⟨some 9, .mov (.t 0), none⟩, ⟨some 10, .load true 2 (.t 3), none⟩, ⟨some 11, .call 435 [.t 9, .t 10], none⟩, ⟨some 4, .mov (.t 11), none⟩, ⟨some 5, .mov (.c (.bool true)), none⟩]) (.kl [0, 3, 9, 10, 11] (.ret)))))), [.tmp 4, .tmp 5]⟩
/-- spec.DrawIsLine -/
def fi434 : FI := ⟨.seq (.reg [⟨some 2, .mov (.c (.str [])), none⟩]) (.kl [2] (.seq (.reg [⟨some 4, .mov (.t 0), none⟩, ⟨some 5, .build [.nilS, .int .i64 0, .int .u64 0] [(0, 1, .t 4)], none⟩, ⟨some 6, .box (.t 5), none⟩, ⟨some 3, .mov (.t 6), none⟩]) (.kl [0, 4, 5, 6] (.seq (.reg [⟨some 7, .mov (.t 3), none⟩, ⟨some 8, .call 101 [.t 7], none⟩, ⟨some 2, .mov (.t 8), none⟩]) (.kl [3, 7, 8] (.ret)))))), [.tmp 2]⟩
/-- impl.IsLine -/
def fi106 : FI := ⟨.seq (.reg [⟨some 2, .mov (.c (.bool false)), none⟩]) (.kl [2] (.seq (.reg [⟨some 3, .mov (.t 0), none⟩, ⟨some 4, .call 82 [.t 3, .c (.int .i64 12)], none⟩, ⟨some 2, .mov (.t 4), none⟩]) (.kl [0, 3, 4] (.ret)))), [.tmp 2]⟩
/-- impl.count -/
def fi189 : FI := ⟨.seq (.reg [⟨some 2, .mov (.c (.int .i64 0)), none⟩, ⟨some 3, .mov (.c (.int .i64 0)), none⟩, ⟨some 4, .mov (.c (.int .i64 0)), none⟩]) (.kl [2, 3, 4] (.seq (.reg [⟨some 5, .mov (.t 0), none⟩, ⟨some 6, .call 131 [.t 5, .c (.str [84])], none⟩, ⟨some 7, .mov (.t 0), none⟩, ⟨some 8, .call 131 [.t 7, .c (.str [46])], none⟩, ⟨some 9, .mov (.t 0), none⟩, ⟨some 10, .call 131 [.t 9, .c (.str [70])], none⟩, ⟨some 2, .mov (.t 6), none⟩, ⟨some 3, .mov (.t 8), none⟩, ⟨some 4, .mov (.t 10), none⟩]) (.kl [0, 5, 6, 7, 8, 9, 10] (.ret)))), [.tmp 2, .tmp 3, .tmp 4]⟩
-- lp439_0 HEAD [2, 5, 7, 8] | exit 0: [5]
/-- impl.below -/
def lb439_0 : C := .kl [34] (.seq (.reg [⟨some 9, .bin .lss (.t 8) (.t 7), none⟩]) (.seq (.cond (.t 9) (.skip) (.kl [2, 7, 8, 9] (.exit 0))) (.kl [9] (.seq (.blk 1 (.seq (.reg [⟨some 10, .mov (.t 8), none⟩, ⟨some 6, .mov (.t 10), none⟩]) (.kl [10] (.seq (.reg [⟨some 11, .mov (.t 6), none⟩, ⟨some 12, .iaddrA 3 1 (.t 2) (.t 11), none⟩, ⟨some 13, .load false 1 (.t 12), none⟩, ⟨some 14, .bin .gtr (.t 13) (.c (.int .i64 0)), none⟩]) (.kl [11, 12, 13] (.cond (.t 14) (.kl [14] (.seq (.reg [⟨some 15, .mov (.t 6), none⟩, ⟨some 16, .iaddrA 3 1 (.t 2) (.t 15), none⟩, ⟨some 17, .load false 1 (.t 16), none⟩, ⟨some 18, .bin .sub (.t 17) (.c (.int .i64 1)), none⟩, ⟨some 19, .iaddrA 3 1 (.t 2) (.t 15), none⟩, ⟨none, .store 1 (.t 19) (.t 18), none⟩]) (.kl [15, 16, 17, 18, 19] (.seq (.reg [⟨some 20, .mov (.t 5), none⟩, ⟨some 21, .iaddrA 3 1 (.t 2) (.c (.int .i64 2)), none⟩, ⟨some 22, .load false 1 (.t 21), none⟩, ⟨some 23, .iaddrA 3 1 (.t 2) (.c (.int .i64 0)), none⟩, ⟨some 24, .load false 1 (.t 23), none⟩, ⟨some 25, .iaddrA 3 1 (.t 2) (.c (.int .i64 1)), none⟩, ⟨some 26, .load false 1 (.t 25), none⟩, ⟨some 27, .call 91 [.t 22, .t 24, .t 26], none⟩, ⟨some 28, .bin .add (.t 20) (.t 27), none⟩, ⟨some 5, .mov (.t 28), none⟩]) (.kl [20, 21, 22, 23, 24, 25, 26, 27, 28] (.reg [⟨some 29, .mov (.t 6), none⟩, ⟨some 30, .iaddrA 3 1 (.t 2) (.t 29), none⟩, ⟨some 31, .load false 1 (.t 30), none⟩, ⟨some 32, .bin .add (.t 31) (.c (.int .i64 1)), none⟩, ⟨some 33, .iaddrA 3 1 (.t 2) (.t 29), none⟩, ⟨none, .store 1 (.t 33) (.t 32), none⟩])))))) (.skip))))))) (.kl [6, 14, 29, 30, 31, 32, 33] (.reg [⟨some 34, .bin .add (.t 8) (.c (.int .i64 1)), none⟩, ⟨some 8, .mov (.t 34), none⟩]))))))
def lp439_0 : C := lb439_0
def fi439 : FI := ⟨.seq (.reg [⟨some 2, .box (.t 0), none⟩, ⟨some 4, .mov (.c (.int .i64 0)), none⟩]) (.kl [0, 4] (.seq (.reg [⟨some 5, .mov (.c (.int .i64 0)), none⟩]) (.seq (.seq (.reg [⟨some 7, .mov (.t 1), none⟩, ⟨some 8, .mov (.c (.int .i64 0)), none⟩]) (.kl [1] (.blk 0 (.loop lp439_0)))) (.seq (.reg [⟨some 35, .mov (.t 5), none⟩, ⟨some 4, .mov (.t 35), none⟩]) (.kl [5, 35] (.ret)))))), [.tmp 4]⟩
-- lp104_0 HEAD [0, 3] | exit 0: [] | ret: [2]
/-- spec.liGood -/
def lb104_0 : C := .kl [12, 13] (.seq (.seq (.reg [⟨some 8, .mov (.t 3), none⟩, ⟨some 9, .mov (.t 0), none⟩, ⟨some 10, .lenS (.t 9), none⟩, ⟨some 11, .bin .lss (.t 8) (.t 10), none⟩]) (.kl [8, 9, 10] (.cond (.t 11) (.skip) (.kl [0, 3, 11] (.exit 0))))) (.kl [11] (.seq (.blk 1 (.seq (.reg [⟨some 14, .mov (.t 0), none⟩, ⟨some 15, .mov (.t 3), none⟩, ⟨some 16, .idxS (.t 14) (.t 15), none⟩, ⟨some 17, .bin .neq (.t 16) (.c (.int .u8 84)), none⟩, ⟨some 18, .mov (.t 17), none⟩, ⟨some 19, .mov (.t 0), some (18, true)⟩, ⟨some 20, .mov (.t 3), some (18, true)⟩, ⟨some 21, .idxS (.t 19) (.t 20), some (18, true)⟩, ⟨some 22, .bin .neq (.t 21) (.c (.int .u8 70)), some (18, true)⟩, ⟨some 23, .pick (.t 18) (.t 22) (.c (.bool false)), none⟩, ⟨some 24, .mov (.t 23), none⟩, ⟨some 25, .mov (.t 0), some (24, true)⟩, ⟨some 26, .mov (.t 3), some (24, true)⟩, ⟨some 27, .idxS (.t 25) (.t 26), some (24, true)⟩, ⟨some 28, .bin .neq (.t 27) (.c (.int .u8 46)), some (24, true)⟩, ⟨some 29, .pick (.t 24) (.t 28) (.c (.bool false)), none⟩]) (.kl [14, 15, 16, 17, 18, 19, 20, 21, 22, 23, 24, 25, 26, 27, 28] (.cond (.t 29) (.kl [0, 3, 29] (.seq (.reg [⟨some 2, .mov (.c (.bool false)), none⟩]) (.ret))) (.skip))))) (.kl [29] (.reg [⟨some 12, .mov (.t 3), none⟩, ⟨some 13, .bin .add (.t 12) (.c (.int .i64 1)), none⟩, ⟨some 3, .mov (.t 13), none⟩])))))
def lp104_0 : C := lb104_0
def fi104 : FI := ⟨.seq (.reg [⟨some 2, .mov (.c (.bool false)), none⟩]) (.kl [2] (.seq (.seq (.reg [⟨some 4, .mov (.t 0), none⟩, ⟨some 5, .lenS (.t 4), none⟩, ⟨some 6, .call 77 [.t 5, .c (.int .i64 1), .c (.int .i64 12)], none⟩, ⟨some 7, .un .not (.t 6), none⟩]) (.kl [4, 5, 6] (.cond (.t 7) (.kl [0, 7] (.seq (.reg [⟨some 2, .mov (.c (.bool false)), none⟩]) (.ret))) (.skip)))) (.kl [7] (.seq (.seq (.reg [⟨some 3, .mov (.c (.int .i64 0)), none⟩]) (.blk 0 (.loop lp104_0))) (.seq (.reg [⟨some 2, .mov (.c (.bool true)), none⟩]) (.ret)))))), [.tmp 2]⟩
-- lp116_0 HEAD [0, 1, 5, 6] | exit 0: [5]
/-- spec.liCount -/
def lb116_0 : C := .kl [11, 12] (.seq (.seq (.reg [⟨some 7, .mov (.t 6), none⟩, ⟨some 8, .mov (.t 0), none⟩, ⟨some 9, .lenS (.t 8), none⟩, ⟨some 10, .bin .lss (.t 7) (.t 9), none⟩]) (.kl [7, 8, 9] (.cond (.t 10) (.skip) (.kl [0, 1, 6, 10] (.exit 0))))) (.kl [10] (.seq (.blk 1 (.seq (.reg [⟨some 13, .mov (.t 0), none⟩, ⟨some 14, .mov (.t 6), none⟩, ⟨some 15, .idxS (.t 13) (.t 14), none⟩, ⟨some 16, .mov (.t 1), none⟩, ⟨some 17, .bin .eql (.t 15) (.t 16), none⟩]) (.kl [13, 14, 15, 16] (.cond (.t 17) (.kl [17] (.reg [⟨some 18, .mov (.t 5), none⟩, ⟨some 19, .bin .add (.t 18) (.c (.int .i64 1)), none⟩, ⟨some 5, .mov (.t 19), none⟩])) (.skip))))) (.kl [17, 18, 19] (.reg [⟨some 11, .mov (.t 6), none⟩, ⟨some 12, .bin .add (.t 11) (.c (.int .i64 1)), none⟩, ⟨some 6, .mov (.t 12), none⟩])))))
def lp116_0 : C := lb116_0
def fi116 : FI := ⟨.seq (.reg [⟨some 4, .mov (.c (.int .i64 0)), none⟩]) (.kl [4] (.seq (.reg [⟨some 5, .mov (.c (.int .i64 0)), none⟩]) (.seq (.seq (.reg [⟨some 6, .mov (.c (.int .i64 0)), none⟩]) (.blk 0 (.loop lp116_0))) (.seq (.reg [⟨some 20, .mov (.t 5), none⟩, ⟨some 4, .mov (.t 20), none⟩]) (.kl [5, 20] (.ret)))))), [.tmp 4]⟩
-- lp440_0 HEAD [0, 1, 2, 7, 8] | exit 0: [1, 2, 7]
-- lp440_1 HEAD [1, 2, 7, 9] | exit 2: [7]
/-- spec.liMany -/
def lb440_1 : C := .kl [37, 38] (.seq (.seq (.reg [⟨some 34, .mov (.t 9), none⟩, ⟨some 35, .mov (.t 2), none⟩, ⟨some 36, .bin .leq (.t 34) (.t 35), none⟩]) (.kl [34, 35] (.cond (.t 36) (.skip) (.kl [1, 2, 9, 36] (.exit 2))))) (.kl [36] (.seq (.blk 3 (.reg [⟨some 39, .mov (.t 7), none⟩, ⟨some 40, .mov (.t 1), none⟩, ⟨some 41, .mov (.t 9), none⟩, ⟨some 42, .bin .add (.t 40) (.t 41), none⟩, ⟨some 43, .bin .mul (.t 39) (.t 42), none⟩, ⟨some 44, .mov (.t 9), none⟩, ⟨some 45, .bin .quo (.t 43) (.t 44), none⟩, ⟨some 7, .mov (.t 45), none⟩])) (.kl [39, 40, 41, 42, 43, 44, 45] (.reg [⟨some 37, .mov (.t 9), none⟩, ⟨some 38, .bin .add (.t 37) (.c (.int .i64 1)), none⟩, ⟨some 9, .mov (.t 38), none⟩])))))
def lp440_1 : C := lb440_1
def lb440_0 : C := .kl [23, 24] (.seq (.seq (.reg [⟨some 20, .mov (.t 8), none⟩, ⟨some 21, .mov (.t 0), none⟩, ⟨some 22, .bin .leq (.t 20) (.t 21), none⟩]) (.kl [20, 21] (.cond (.t 22) (.skip) (.kl [0, 8, 22] (.exit 0))))) (.kl [22] (.seq (.blk 1 (.reg [⟨some 25, .mov (.t 7), none⟩, ⟨some 26, .mov (.t 1), none⟩, ⟨some 27, .mov (.t 2), none⟩, ⟨some 28, .bin .add (.t 26) (.t 27), none⟩, ⟨some 29, .mov (.t 8), none⟩, ⟨some 30, .bin .add (.t 28) (.t 29), none⟩, ⟨some 31, .bin .mul (.t 25) (.t 30), none⟩, ⟨some 32, .mov (.t 8), none⟩, ⟨some 33, .bin .quo (.t 31) (.t 32), none⟩, ⟨some 7, .mov (.t 33), none⟩])) (.kl [25, 26, 27, 28, 29, 30, 31, 32, 33] (.reg [⟨some 23, .mov (.t 8), none⟩, ⟨some 24, .bin .add (.t 23) (.c (.int .i64 1)), none⟩, ⟨some 8, .mov (.t 24), none⟩])))))
def lp440_0 : C := lb440_0
def fi440 : FI := ⟨.seq (.reg [⟨some 6, .mov (.c (.int .i64 0)), none⟩]) (.kl [6] (.seq (.seq (.reg [⟨some 10, .mov (.t 0), none⟩, ⟨some 11, .bin .lss (.t 10) (.c (.int .i64 0)), none⟩, ⟨some 12, .mov (.t 11), none⟩, ⟨some 13, .mov (.t 1), some (12, false)⟩, ⟨some 14, .bin .lss (.t 13) (.c (.int .i64 0)), some (12, false)⟩, ⟨some 15, .pick (.t 12) (.c (.bool true)) (.t 14), none⟩, ⟨some 16, .mov (.t 15), none⟩, ⟨some 17, .mov (.t 2), some (16, false)⟩, ⟨some 18, .bin .lss (.t 17) (.c (.int .i64 0)), some (16, false)⟩, ⟨some 19, .pick (.t 16) (.c (.bool true)) (.t 18), none⟩]) (.kl [10, 11, 12, 13, 14, 15, 16, 17, 18] (.cond (.t 19) (.kl [0, 1, 2, 19] (.seq (.reg [⟨some 6, .mov (.c (.int .i64 0)), none⟩]) (.ret))) (.skip)))) (.kl [19] (.seq (.reg [⟨some 7, .mov (.c (.int .i64 1)), none⟩]) (.seq (.seq (.reg [⟨some 8, .mov (.c (.int .i64 1)), none⟩]) (.blk 0 (.loop lp440_0))) (.seq (.seq (.reg [⟨some 9, .mov (.c (.int .i64 1)), none⟩]) (.blk 2 (.loop lp440_1))) (.seq (.reg [⟨some 46, .mov (.t 7), none⟩, ⟨some 6, .mov (.t 46), none⟩]) (.kl [7, 46] (.ret))))))))), [.tmp 6]⟩
/-- impl.last -/
def fi237 : FI := ⟨.seq (.reg [⟨some 2, .mov (.c (.str [])), none⟩]) (.kl [2] (.seq (.reg [⟨some 7, .mov (.t 0), none⟩, ⟨some 8, .call 189 [.t 7], none⟩, ⟨some 6, .mov (.t 8), none⟩, ⟨some 9, .prj 0 (.t 6), none⟩, ⟨some 10, .prj 1 (.t 6), none⟩, ⟨some 11, .prj 2 (.t 6), none⟩, ⟨some 3, .mov (.t 9), none⟩, ⟨some 4, .mov (.t 10), none⟩, ⟨some 5, .mov (.t 11), none⟩]) (.kl [0, 6, 7, 8, 9, 10, 11] (.seq (.reg [⟨some 12, .mov (.t 5), none⟩, ⟨some 13, .mov (.t 4), none⟩, ⟨some 14, .mov (.t 3), none⟩, ⟨some 15, .call 246 [.c (.int .u8 70), .t 12, .t 13, .c (.int .u8 84), .t 14], none⟩, ⟨some 2, .mov (.t 15), none⟩]) (.kl [3, 4, 5, 12, 13, 14, 15] (.ret)))))), [.tmp 2]⟩
/-- spec.liLast -/
def fi251 : FI := ⟨.seq (.reg [⟨some 2, .mov (.c (.str [])), none⟩]) (.kl [2] (.seq (.reg [⟨some 3, .mov (.t 0), none⟩, ⟨some 4, .call 116 [.t 3, .c (.int .u8 70)], none⟩, ⟨some 5, .call 124 [.c (.str [70]), .t 4], none⟩, ⟨some 6, .mov (.t 0), none⟩, ⟨some 7, .call 116 [.t 6, .c (.int .u8 46)], none⟩, ⟨some 8, .call 124 [.c (.str [46]), .t 7], none⟩, ⟨some 9, .bin .add (.t 5) (.t 8), none⟩, ⟨some 10, .mov (.t 0), none⟩, ⟨some 11, .call 116 [.t 10, .c (.int .u8 84)], none⟩, ⟨some 12, .call 124 [.c (.str [84]), .t 11], none⟩, ⟨some 13, .bin .add (.t 9) (.t 12), none⟩, ⟨some 2, .mov (.t 13), none⟩]) (.kl [0, 3, 4, 5, 6, 7, 8, 9, 10, 11, 12, 13] (.ret)))), [.tmp 2]⟩
/-- impl.areCounts -/
def fi92 : FI := ⟨.seq (.reg [⟨some 8, .mov (.c (.bool false)), none⟩]) (.kl [8] (.seq (.reg [⟨some 9, .mov (.t 0), none⟩, ⟨some 10, .mov (.t 3), none⟩, ⟨some 11, .call 74 [.t 9, .c (.int .i64 0), .t 10], none⟩, ⟨some 12, .mov (.t 11), none⟩, ⟨some 13, .mov (.t 1), some (12, true)⟩, ⟨some 14, .mov (.t 3), some (12, true)⟩, ⟨some 15, .call 74 [.t 13, .c (.int .i64 0), .t 14], some (12, true)⟩, ⟨some 16, .pick (.t 12) (.t 15) (.c (.bool false)), none⟩, ⟨some 17, .mov (.t 16), none⟩, ⟨some 18, .mov (.t 2), some (17, true)⟩, ⟨some 19, .mov (.t 3), some (17, true)⟩, ⟨some 20, .call 74 [.t 18, .c (.int .i64 0), .t 19], some (17, true)⟩, ⟨some 21, .pick (.t 17) (.t 20) (.c (.bool false)), none⟩, ⟨some 22, .mov (.t 21), none⟩, ⟨some 23, .mov (.t 0), some (22, true)⟩, ⟨some 24, .mov (.t 1), some (22, true)⟩, ⟨some 25, .bin .add (.t 23) (.t 24), some (22, true)⟩, ⟨some 26, .mov (.t 2), some (22, true)⟩, ⟨some 27, .bin .add (.t 25) (.t 26), some (22, true)⟩, ⟨some 28, .mov (.t 3), some (22, true)⟩, ⟨some 29, .call 74 [.t 27, .c (.int .i64 1), .t 28], some (22, true)⟩, ⟨some 30, .pick (.t 22) (.t 29) (.c (.bool false)), none⟩, ⟨some 8, .mov (.t 30), none⟩]) (.kl [0, 1, 2, 3, 9, 10, 11, 12, 13, 14, 15, 16, 17, 18, 19, 20, 21, 22, 23, 24, 25, 26, 27, 28, 29, 30] (.ret)))), [.tmp 8]⟩
-- lp91_0 HEAD [0, 1, 2, 7, 8] | exit 0: [0, 1, 2, 7]
-- lp91_1 HEAD [0, 1, 2, 7, 9] | exit 2: [7]
/-- impl.lines -/
def lb91_1 : C := .kl [25, 26] (.seq (.seq (.reg [⟨some 22, .mov (.t 9), none⟩, ⟨some 23, .mov (.t 2), none⟩, ⟨some 24, .bin .leq (.t 22) (.t 23), none⟩]) (.kl [22, 23] (.cond (.t 24) (.skip) (.kl [0, 1, 2, 9, 24] (.exit 2))))) (.kl [24] (.seq (.blk 3 (.reg [⟨some 27, .mov (.t 7), none⟩, ⟨some 28, .mov (.t 0), none⟩, ⟨some 29, .mov (.t 1), none⟩, ⟨some 30, .bin .add (.t 28) (.t 29), none⟩, ⟨some 31, .mov (.t 9), none⟩, ⟨some 32, .bin .add (.t 30) (.t 31), none⟩, ⟨some 33, .bin .mul (.t 27) (.t 32), none⟩, ⟨some 34, .mov (.t 9), none⟩, ⟨some 35, .bin .quo (.t 33) (.t 34), none⟩, ⟨some 7, .mov (.t 35), none⟩])) (.kl [27, 28, 29, 30, 31, 32, 33, 34, 35] (.reg [⟨some 25, .mov (.t 9), none⟩, ⟨some 26, .bin .add (.t 25) (.c (.int .i64 1)), none⟩, ⟨some 9, .mov (.t 26), none⟩])))))
def lp91_1 : C := lb91_1
def lb91_0 : C := .kl [13, 14] (.seq (.seq (.reg [⟨some 10, .mov (.t 8), none⟩, ⟨some 11, .mov (.t 1), none⟩, ⟨some 12, .bin .leq (.t 10) (.t 11), none⟩]) (.kl [10, 11] (.cond (.t 12) (.skip) (.kl [8, 12] (.exit 0))))) (.kl [12] (.seq (.blk 1 (.reg [⟨some 15, .mov (.t 7), none⟩, ⟨some 16, .mov (.t 0), none⟩, ⟨some 17, .mov (.t 8), none⟩, ⟨some 18, .bin .add (.t 16) (.t 17), none⟩, ⟨some 19, .bin .mul (.t 15) (.t 18), none⟩, ⟨some 20, .mov (.t 8), none⟩, ⟨some 21, .bin .quo (.t 19) (.t 20), none⟩, ⟨some 7, .mov (.t 21), none⟩])) (.kl [15, 16, 17, 18, 19, 20, 21] (.reg [⟨some 13, .mov (.t 8), none⟩, ⟨some 14, .bin .add (.t 13) (.c (.int .i64 1)), none⟩, ⟨some 8, .mov (.t 14), none⟩])))))
def lp91_0 : C := lb91_0
def fi91 : FI := ⟨.seq (.reg [⟨some 6, .mov (.c (.int .i64 0)), none⟩]) (.kl [6] (.seq (.reg [⟨some 7, .mov (.c (.int .i64 1)), none⟩]) (.seq (.seq (.reg [⟨some 8, .mov (.c (.int .i64 1)), none⟩]) (.blk 0 (.loop lp91_0))) (.seq (.seq (.reg [⟨some 9, .mov (.c (.int .i64 1)), none⟩]) (.blk 2 (.loop lp91_1))) (.seq (.reg [⟨some 36, .mov (.t 7), none⟩, ⟨some 6, .mov (.t 36), none⟩]) (.kl [7, 36] (.ret))))))), [.tmp 6]⟩
/-- impl.within -/
def fi74 : FI := ⟨.seq (.reg [⟨some 6, .mov (.c (.bool false)), none⟩]) (.kl [6] (.seq (.reg [⟨some 7, .mov (.t 1), none⟩, ⟨some 8, .mov (.t 0), none⟩, ⟨some 9, .bin .leq (.t 7) (.t 8), none⟩, ⟨some 10, .mov (.t 9), none⟩, ⟨some 11, .mov (.t 0), some (10, true)⟩, ⟨some 12, .mov (.t 2), some (10, true)⟩, ⟨some 13, .bin .leq (.t 11) (.t 12), some (10, true)⟩, ⟨some 14, .pick (.t 10) (.t 13) (.c (.bool false)), none⟩, ⟨some 6, .mov (.t 14), none⟩]) (.kl [0, 1, 2, 7, 8, 9, 10, 11, 12, 13, 14] (.ret)))), [.tmp 6]⟩
-- lp305_0 HEAD [0, 6, 7, 8, 21, 22] | exit 0: [6]
/-- impl.way -/
def lb305_0 : C := .kl [46] (.seq (.reg [⟨some 23, .bin .lss (.t 22) (.t 21), none⟩]) (.seq (.cond (.t 23) (.skip) (.kl [0, 7, 8, 21, 22, 23] (.exit 0))) (.kl [23] (.seq (.blk 1 (.seq (.reg [⟨some 24, .mov (.t 22), none⟩, ⟨some 9, .mov (.t 24), none⟩]) (.kl [24] (.seq (.reg [⟨some 25, .mov (.t 0), none⟩, ⟨some 26, .mov (.t 9), none⟩, ⟨some 27, .idxS (.t 25) (.t 26), none⟩]) (.kl [25, 26] (.blk 2 (.seq (.reg [⟨some 29, .bin .eql (.t 27) (.c (.int .u8 84)), none⟩, ⟨some 28, .mov (.t 29), none⟩]) (.kl [29] (.cond (.t 28) (.kl [27, 28] (.seq (.reg [⟨some 30, .mov (.t 6), none⟩, ⟨some 31, .mov (.t 7), none⟩, ⟨some 32, .mov (.t 9), none⟩, ⟨some 33, .bin .sub (.t 31) (.t 32), none⟩, ⟨some 34, .bin .add (.t 30) (.t 33), none⟩, ⟨some 6, .mov (.t 34), none⟩]) (.kl [9, 30, 31, 32, 33, 34] (.reg [⟨some 35, .mov (.t 7), none⟩, ⟨some 36, .bin .add (.t 35) (.c (.int .i64 1)), none⟩, ⟨some 7, .mov (.t 36), none⟩])))) (.kl [28] (.seq (.reg [⟨some 38, .bin .eql (.t 27) (.c (.int .u8 70)), none⟩, ⟨some 37, .mov (.t 38), none⟩]) (.kl [27, 38] (.cond (.t 37) (.kl [37] (.seq (.reg [⟨some 39, .mov (.t 6), none⟩, ⟨some 40, .mov (.t 9), none⟩, ⟨some 41, .mov (.t 8), none⟩, ⟨some 42, .bin .sub (.t 40) (.t 41), none⟩, ⟨some 43, .bin .add (.t 39) (.t 42), none⟩, ⟨some 6, .mov (.t 43), none⟩]) (.kl [9, 39, 40, 41, 42, 43] (.reg [⟨some 44, .mov (.t 8), none⟩, ⟨some 45, .bin .add (.t 44) (.c (.int .i64 1)), none⟩, ⟨some 8, .mov (.t 45), none⟩])))) (.skip)))))))))))))) (.kl [9, 35, 36, 37, 44, 45] (.reg [⟨some 46, .bin .add (.t 22) (.c (.int .i64 1)), none⟩, ⟨some 22, .mov (.t 46), none⟩]))))))
def lp305_0 : C := lb305_0
def fi305 : FI := ⟨.seq (.reg [⟨some 2, .mov (.c (.int .i64 0)), none⟩]) (.kl [2] (.seq (.reg [⟨some 11, .mov (.t 0), none⟩, ⟨some 12, .call 189 [.t 11], none⟩, ⟨some 10, .mov (.t 12), none⟩, ⟨some 13, .prj 0 (.t 10), none⟩, ⟨some 14, .prj 1 (.t 10), none⟩, ⟨some 15, .prj 2 (.t 10), none⟩, ⟨some 3, .mov (.t 13), none⟩, ⟨some 4, .mov (.t 14), none⟩, ⟨some 5, .mov (.t 15), none⟩]) (.kl [4, 5, 10, 11, 12, 13, 14, 15] (.seq (.reg [⟨some 16, .mov (.t 0), none⟩, ⟨some 17, .lenS (.t 16), none⟩, ⟨some 18, .mov (.t 3), none⟩, ⟨some 19, .bin .sub (.t 17) (.t 18), none⟩, ⟨some 6, .mov (.c (.int .i64 0)), none⟩, ⟨some 7, .mov (.t 19), none⟩, ⟨some 8, .mov (.c (.int .i64 0)), none⟩]) (.kl [3, 16, 17, 18, 19] (.seq (.seq (.reg [⟨some 20, .mov (.t 0), none⟩, ⟨some 21, .lenS (.t 20), none⟩, ⟨some 22, .mov (.c (.int .i64 0)), none⟩]) (.kl [20] (.blk 0 (.loop lp305_0)))) (.seq (.reg [⟨some 47, .mov (.t 6), none⟩, ⟨some 2, .mov (.t 47), none⟩]) (.kl [6, 47] (.ret))))))))), [.tmp 2]⟩
/-- (*spec.l1Cur).three -/
def fi441 : FI := ⟨.seq (.reg [⟨some 2, .mov (.c (.int .i64 0)), none⟩, ⟨some 3, .mov (.c (.int .i64 0)), none⟩, ⟨some 4, .mov (.c (.int .i64 0)), none⟩]) (.kl [2, 3, 4] (.seq (.seq (.reg [⟨some 5, .mov (.t 0), none⟩, ⟨some 6, .call 64 [.t 5, .c (.int .i64 10)], none⟩]) (.kl [5] (.cond (.t 6) (.kl [6] (.seq (.reg [⟨some 7, .mov (.t 0), none⟩, ⟨some 8, .lit 1 5 [.int .i64 0, .int .i64 0, .int .i64 0, .int .i64 0, .int .i64 0] [(0, 1, .c (.int .i64 (-1))), (1, 1, .c (.int .i64 0)), (2, 1, .c (.int .i64 12)), (3, 1, .c (.int .i64 13)), (4, 1, .c (.int .i64 4611686018427387904))], none⟩, ⟨some 9, .call 62 [.t 7, .t 8], none⟩, ⟨some 10, .mov (.t 0), none⟩, ⟨some 11, .lit 1 4 [.int .i64 0, .int .i64 0, .int .i64 0, .int .i64 0] [(0, 1, .c (.int .i64 0)), (1, 1, .c (.int .i64 1)), (2, 1, .c (.int .i64 12)), (3, 1, .c (.int .i64 (-1)))], none⟩, ⟨some 12, .call 62 [.t 10, .t 11], none⟩, ⟨some 13, .mov (.t 0), none⟩, ⟨some 14, .lit 1 4 [.int .i64 0, .int .i64 0, .int .i64 0, .int .i64 0] [(0, 1, .c (.int .i64 0)), (1, 1, .c (.int .i64 1)), (2, 1, .c (.int .i64 5)), (3, 1, .c (.int .i64 4611686018427387904))], none⟩, ⟨some 15, .call 62 [.t 13, .t 14], none⟩, ⟨some 2, .mov (.t 9), none⟩, ⟨some 3, .mov (.t 12), none⟩, ⟨some 4, .mov (.t 15), none⟩]) (.kl [0, 7, 8, 9, 10, 11, 12, 13, 14, 15] (.ret)))) (.skip)))) (.kl [6] (.seq (.reg [⟨some 16, .mov (.t 0), none⟩, ⟨some 17, .call 63 [.t 16, .c (.int .i64 5)], none⟩, ⟨some 18, .mov (.t 0), none⟩, ⟨some 19, .call 63 [.t 18, .c (.int .i64 4)], none⟩, ⟨some 20, .mov (.t 0), none⟩, ⟨some 21, .call 63 [.t 20, .c (.int .i64 4)], none⟩, ⟨some 2, .mov (.t 17), none⟩, ⟨some 3, .mov (.t 19), none⟩, ⟨some 4, .mov (.t 21), none⟩]) (.kl [0, 16, 17, 18, 19, 20, 21] (.ret)))))), [.tmp 2, .tmp 3, .tmp 4]⟩
/-- spec.liThree -/
def fi442 : FI := ⟨.seq (.reg [⟨some 6, .mov (.c (.bool false)), none⟩]) (.kl [6] (.seq (.reg [⟨some 7, .mov (.t 0), none⟩, ⟨some 8, .mov (.t 1), none⟩, ⟨some 9, .mov (.t 2), none⟩, ⟨some 10, .lit 1 3 [.int .i64 0, .int .i64 0, .int .i64 0] [(0, 1, .t 7), (1, 1, .t 8), (2, 1, .t 9)], none⟩, ⟨some 11, .call 114 [.t 10, .c (.int .i64 0), .c (.int .i64 12)], none⟩, ⟨some 12, .mov (.t 11), none⟩, ⟨some 13, .mov (.t 0), some (12, true)⟩, ⟨some 14, .mov (.t 1), some (12, true)⟩, ⟨some 15, .bin .add (.t 13) (.t 14), some (12, true)⟩, ⟨some 16, .mov (.t 2), some (12, true)⟩, ⟨some 17, .bin .add (.t 15) (.t 16), some (12, true)⟩, ⟨some 18, .call 77 [.t 17, .c (.int .i64 1), .c (.int .i64 12)], some (12, true)⟩, ⟨some 19, .pick (.t 12) (.t 18) (.c (.bool false)), none⟩, ⟨some 6, .mov (.t 19), none⟩]) (.kl [0, 1, 2, 7, 8, 9, 10, 11, 12, 13, 14, 15, 16, 17, 18, 19] (.ret)))), [.tmp 6]⟩
/-- (*spec.l1Cur).pick -/
def fi63 : FI := ⟨.seq (.reg [⟨some 4, .mov (.c (.int .i64 0)), none⟩]) (.kl [4] (.seq (.seq (.reg [⟨some 6, .mov (.t 1), none⟩, ⟨some 7, .bin .leq (.t 6) (.c (.int .i64 1)), none⟩]) (.kl [6] (.cond (.t 7) (.kl [0, 1, 7] (.seq (.reg [⟨some 4, .mov (.c (.int .i64 0)), none⟩]) (.ret))) (.skip)))) (.kl [7] (.seq (.reg [⟨some 8, .mov (.t 0), none⟩, ⟨some 9, .call 107 [.t 8], none⟩, ⟨some 5, .mov (.t 9), none⟩]) (.kl [8, 9] (.seq (.seq (.reg [⟨some 10, .mov (.t 1), none⟩, ⟨some 11, .bin .gtr (.t 10) (.c (.int .i64 200)), none⟩]) (.kl [10] (.cond (.t 11) (.kl [11] (.reg [⟨some 12, .mov (.t 5), none⟩, ⟨some 13, .bin .mul (.t 12) (.c (.int .i64 256)), none⟩, ⟨some 14, .mov (.t 0), none⟩, ⟨some 15, .call 107 [.t 14], none⟩, ⟨some 16, .bin .add (.t 13) (.t 15), none⟩, ⟨some 5, .mov (.t 16), none⟩])) (.skip)))) (.kl [0, 11, 12, 13, 14, 15, 16] (.seq (.reg [⟨some 17, .mov (.t 5), none⟩, ⟨some 18, .mov (.t 1), none⟩, ⟨some 19, .bin .rem (.t 17) (.t 18), none⟩, ⟨some 4, .mov (.t 19), none⟩]) (.kl [1, 5, 17, 18, 19] (.ret)))))))))), [.tmp 4]⟩
/-- spec.l1In -/
def fi77 : FI := ⟨.seq (.reg [⟨some 6, .mov (.c (.bool false)), none⟩]) (.kl [6] (.seq (.reg [⟨some 7, .mov (.t 0), none⟩, ⟨some 8, .mov (.t 1), none⟩, ⟨some 9, .bin .geq (.t 7) (.t 8), none⟩, ⟨some 10, .mov (.t 9), none⟩, ⟨some 11, .mov (.t 0), some (10, true)⟩, ⟨some 12, .mov (.t 2), some (10, true)⟩, ⟨some 13, .bin .leq (.t 11) (.t 12), some (10, true)⟩, ⟨some 14, .pick (.t 10) (.t 13) (.c (.bool false)), none⟩, ⟨some 6, .mov (.t 14), none⟩]) (.kl [0, 1, 2, 7, 8, 9, 10, 11, 12, 13, 14] (.ret)))), [.tmp 6]⟩
/-- impl.first -/
def fi253 : FI := ⟨.seq (.reg [⟨some 6, .mov (.c (.str [])), none⟩]) (.kl [6] (.seq (.reg [⟨some 7, .mov (.t 0), none⟩, ⟨some 8, .mov (.t 1), none⟩, ⟨some 9, .mov (.t 2), none⟩, ⟨some 10, .call 246 [.c (.int .u8 84), .t 7, .t 8, .c (.int .u8 70), .t 9], none⟩, ⟨some 6, .mov (.t 10), none⟩]) (.kl [0, 1, 2, 7, 8, 9, 10] (.ret)))), [.tmp 6]⟩
/-- spec.liFirst -/
def fi100 : FI := ⟨.seq (.reg [⟨some 6, .mov (.c (.str [])), none⟩]) (.kl [6] (.seq (.reg [⟨some 7, .mov (.t 0), none⟩, ⟨some 8, .call 124 [.c (.str [84]), .t 7], none⟩, ⟨some 9, .mov (.t 1), none⟩, ⟨some 10, .call 124 [.c (.str [46]), .t 9], none⟩, ⟨some 11, .bin .add (.t 8) (.t 10), none⟩, ⟨some 12, .mov (.t 2), none⟩, ⟨some 13, .call 124 [.c (.str [70]), .t 12], none⟩, ⟨some 14, .bin .add (.t 11) (.t 13), none⟩, ⟨some 6, .mov (.t 14), none⟩]) (.kl [0, 1, 2, 7, 8, 9, 10, 11, 12, 13, 14] (.ret)))), [.tmp 6]⟩
/-- (*spec.l1Cur).line -/
def fi101 : FI := ⟨.seq (.reg [⟨some 2, .mov (.c (.str [])), none⟩]) (.kl [2] (.seq (.seq (.reg [⟨some 3, .mov (.t 0), none⟩, ⟨some 4, .call 63 [.t 3, .c (.int .i64 16)], none⟩]) (.kl [3] (.blk 0 (.seq (.reg [⟨some 6, .bin .eql (.t 4) (.c (.int .i64 0)), none⟩, ⟨some 5, .mov (.t 6), none⟩]) (.kl [6] (.cond (.t 5) (.kl [4, 5] (.seq (.reg [⟨some 7, .mov (.t 0), none⟩, ⟨some 8, .lit 1 5 [.str [], .str [], .str [], .str [], .str []] [(0, 1, .c (.str [])), (1, 1, .c (.str [120])), (2, 1, .c (.str [84, 32, 70])), (3, 1, .c (.str [84, 46, 70, 46, 84, 46, 70, 46, 84, 46, 70, 46, 84])), (4, 1, .c (.str [116, 46, 102]))], none⟩, ⟨some 9, .call 71 [.t 7, .t 8], none⟩, ⟨some 2, .mov (.t 9), none⟩]) (.kl [0, 7, 8, 9] (.ret)))) (.kl [5] (.seq (.seq (.reg [⟨some 11, .bin .eql (.t 4) (.c (.int .i64 1)), none⟩, ⟨some 10, .mov (.t 11), none⟩]) (.kl [11] (.cond (.t 10) (.skip) (.kl [10] (.seq (.reg [⟨some 12, .bin .eql (.t 4) (.c (.int .i64 2)), none⟩, ⟨some 10, .mov (.t 12), none⟩]) (.kl [12] (.cond (.t 10) (.skip) (.kl [10] (.reg [⟨some 13, .bin .eql (.t 4) (.c (.int .i64 3)), none⟩, ⟨some 10, .mov (.t 13), none⟩]))))))))) (.kl [4, 13] (.cond (.t 10) (.kl [10] (.seq (.reg [⟨some 14, .mov (.t 0), none⟩, ⟨some 15, .call 63 [.t 14, .c (.int .i64 3)], none⟩, ⟨some 16, .bin .add (.c (.int .i64 1)) (.t 15), none⟩, ⟨some 17, .mov (.t 0), none⟩, ⟨some 18, .call 63 [.t 17, .c (.int .i64 2)], none⟩, ⟨some 19, .bin .add (.c (.int .i64 1)) (.t 18), none⟩, ⟨some 20, .mov (.t 0), none⟩, ⟨some 21, .call 63 [.t 20, .c (.int .i64 3)], none⟩, ⟨some 22, .bin .add (.c (.int .i64 1)) (.t 21), none⟩, ⟨some 23, .call 100 [.t 16, .t 19, .t 22], none⟩, ⟨some 2, .mov (.t 23), none⟩]) (.kl [0, 14, 15, 16, 17, 18, 19, 20, 21, 22, 23] (.ret)))) (.skip))))))))))) (.kl [10] (.seq (.reg [⟨some 24, .mov (.t 0), none⟩, ⟨some 25, .call 99 [.t 24, .c (.int .i64 9)], none⟩, ⟨some 2, .mov (.t 25), none⟩]) (.kl [0, 24, 25] (.ret)))))), [.tmp 2]⟩
-- lp443_0 HEAD [0, 1, 7, 8] | exit 0: [0, 7]
/-- (*spec.l1Cur).moves -/
def lb443_0 : C := .kl [22, 23] (.seq (.seq (.reg [⟨some 20, .mov (.t 8), none⟩, ⟨some 21, .bin .gtr (.t 20) (.c (.int .i64 0)), none⟩]) (.kl [20] (.cond (.t 21) (.skip) (.kl [1, 8, 21] (.exit 0))))) (.kl [21] (.seq (.blk 1 (.seq (.reg [⟨some 24, .mov (.t 1), none⟩, ⟨some 25, .call 119 [.t 24, .c (.bool true), .c (.bool true)], none⟩, ⟨some 9, .mov (.t 25), none⟩]) (.kl [24, 25] (.seq (.seq (.reg [⟨some 26, .mov (.t 9), none⟩, ⟨some 27, .lenV (.t 26), none⟩, ⟨some 28, .bin .eql (.t 27) (.c (.int .i64 0)), none⟩]) (.kl [26, 27] (.cond (.t 28) (.kl [1, 8, 9, 28] (.exit 0)) (.skip)))) (.kl [28] (.seq (.reg [⟨some 29, .mov (.t 9), none⟩, ⟨some 30, .mov (.t 0), none⟩, ⟨some 31, .mov (.t 9), none⟩, ⟨some 32, .lenV (.t 31), none⟩, ⟨some 33, .call 63 [.t 30, .t 32], none⟩, ⟨some 34, .iaddr 2 (.t 29) (.t 33), none⟩, ⟨some 35, .load true 2 (.t 34), none⟩, ⟨some 10, .new [.int .i64 0, .int .i64 0], none⟩, ⟨none, .store 2 (.t 10) (.t 35), none⟩]) (.kl [9, 29, 30, 31, 32, 33, 34, 35] (.seq (.reg [⟨some 36, .mov (.t 7), none⟩, ⟨some 37, .load true 2 (.t 10), none⟩, ⟨some 38, .lit 2 1 [.int .i64 0, .int .i64 0] [(0, 2, .t 37)], none⟩, ⟨some 39, .app 2 (.t 36) (.t 38), none⟩, ⟨some 7, .mov (.t 39), none⟩]) (.kl [36, 37, 38, 39] (.reg [⟨some 40, .mov (.t 1), none⟩, ⟨some 41, .load true 2 (.t 10), none⟩, ⟨some 42, .call 66 [.t 40, .t 41], none⟩, ⟨some 1, .mov (.t 42), none⟩])))))))))) (.kl [10, 40, 41, 42] (.reg [⟨some 22, .mov (.t 8), none⟩, ⟨some 23, .bin .sub (.t 22) (.c (.int .i64 1)), none⟩, ⟨some 8, .mov (.t 23), none⟩])))))
def lp443_0 : C := lb443_0
def fi443 : FI := ⟨.seq (.reg [⟨some 6, .mov (.c (.nilS)), none⟩]) (.kl [6] (.seq (.reg [⟨some 7, .mov (.c (.nilS)), none⟩]) (.seq (.seq (.reg [⟨some 11, .mov (.t 1), none⟩, ⟨some 12, .call 104 [.t 11], none⟩, ⟨some 13, .un .not (.t 12), none⟩]) (.kl [11, 12] (.cond (.t 13) (.kl [0, 1, 2, 7, 13] (.seq (.reg [⟨some 14, .build [.int .i64 0, .int .i64 0] [(0, 1, .c (.int .i64 0)), (1, 1, .c (.int .i64 1))], none⟩, ⟨some 15, .lit 2 1 [.int .i64 0, .int .i64 0] [(0, 2, .t 14)], none⟩, ⟨some 6, .mov (.t 15), none⟩]) (.kl [14, 15] (.ret)))) (.skip)))) (.kl [13] (.seq (.seq (.reg [⟨some 16, .mov (.t 0), none⟩, ⟨some 17, .mov (.t 2), none⟩, ⟨some 18, .bin .add (.t 17) (.c (.int .i64 1)), none⟩, ⟨some 19, .call 63 [.t 16, .t 18], none⟩, ⟨some 8, .mov (.t 19), none⟩]) (.kl [2, 16, 17, 18, 19] (.blk 0 (.loop lp443_0)))) (.seq (.seq (.reg [⟨some 43, .mov (.t 0), none⟩, ⟨some 44, .call 63 [.t 43, .c (.int .i64 10)], none⟩]) (.kl [43] (.blk 2 (.seq (.reg [⟨some 46, .bin .eql (.t 44) (.c (.int .i64 0)), none⟩, ⟨some 45, .mov (.t 46), none⟩]) (.kl [46] (.cond (.t 45) (.kl [44, 45] (.reg [⟨some 47, .mov (.t 7), none⟩, ⟨some 48, .mov (.t 0), none⟩, ⟨some 49, .lit 1 4 [.int .i64 0, .int .i64 0, .int .i64 0, .int .i64 0] [(0, 1, .c (.int .i64 0)), (1, 1, .c (.int .i64 1)), (2, 1, .c (.int .i64 (-1))), (3, 1, .c (.int .i64 4611686018427387904))], none⟩, ⟨some 50, .call 62 [.t 48, .t 49], none⟩, ⟨some 51, .mov (.t 0), none⟩, ⟨some 52, .lit 1 5 [.int .i64 0, .int .i64 0, .int .i64 0, .int .i64 0, .int .i64 0] [(0, 1, .c (.int .i64 0)), (1, 1, .c (.int .i64 2)), (2, 1, .c (.int .i64 (-1))), (3, 1, .c (.int .i64 12)), (4, 1, .c (.int .i64 (-9223372036854775808)))], none⟩, ⟨some 53, .call 62 [.t 51, .t 52], none⟩, ⟨some 54, .build [.int .i64 0, .int .i64 0] [(0, 1, .t 50), (1, 1, .t 53)], none⟩, ⟨some 55, .lit 2 1 [.int .i64 0, .int .i64 0] [(0, 2, .t 54)], none⟩, ⟨some 56, .app 2 (.t 47) (.t 55), none⟩, ⟨some 7, .mov (.t 56), none⟩])) (.kl [0, 45] (.seq (.reg [⟨some 58, .bin .eql (.t 44) (.c (.int .i64 1)), none⟩, ⟨some 57, .mov (.t 58), none⟩]) (.kl [44, 58] (.cond (.t 57) (.kl [57] (.seq (.reg [⟨some 59, .mov (.t 7), none⟩, ⟨some 60, .lenV (.t 59), none⟩, ⟨some 61, .bin .gtr (.t 60) (.c (.int .i64 1)), none⟩]) (.kl [59, 60] (.cond (.t 61) (.kl [61] (.reg [⟨some 62, .mov (.t 7), none⟩, ⟨some 63, .sub 2 (.t 62) (some (.c (.int .i64 1))) none, none⟩, ⟨some 7, .mov (.t 63), none⟩])) (.skip))))) (.skip))))))))))) (.kl [0, 47, 48, 49, 50, 51, 52, 53, 54, 55, 56, 57, 61, 62, 63] (.seq (.reg [⟨some 64, .mov (.t 7), none⟩, ⟨some 6, .mov (.t 64), none⟩]) (.kl [7, 64] (.ret)))))))))), [.tmp 6]⟩
-- lp68_0 HEAD [0, 1, 2, 10, 11, 12] | exit 0: [0, 1] | ret: [6, 7]
/-- impl.played -/
def lb68_0 : C := .kl [26] (.seq (.reg [⟨some 13, .bin .lss (.t 12) (.t 11), none⟩]) (.seq (.cond (.t 13) (.skip) (.kl [2, 10, 11, 12, 13] (.exit 0))) (.kl [13] (.seq (.blk 1 (.seq (.reg [⟨some 14, .mov (.t 12), none⟩, ⟨some 15, .iaddr 2 (.t 10) (.t 12), none⟩, ⟨some 16, .load true 2 (.t 15), none⟩, ⟨some 9, .new [.int .i64 0, .int .i64 0], none⟩, ⟨some 8, .mov (.t 14), none⟩, ⟨none, .store 2 (.t 9) (.t 16), none⟩]) (.kl [14, 15, 16] (.seq (.seq (.reg [⟨some 17, .mov (.t 2), none⟩, ⟨some 18, .mov (.t 0), none⟩, ⟨some 19, .load true 2 (.t 9), none⟩, ⟨some 20, .callv (.t 17) [.t 18, .t 19], none⟩, ⟨some 21, .un .not (.t 20), none⟩]) (.kl [17, 18, 19, 20] (.cond (.t 21) (.kl [0, 1, 2, 9, 10, 11, 12, 21] (.seq (.reg [⟨some 22, .mov (.t 8), none⟩, ⟨some 6, .mov (.c (.str [])), none⟩, ⟨some 7, .mov (.t 22), none⟩]) (.kl [8, 22] (.ret)))) (.skip)))) (.kl [8, 21] (.reg [⟨some 23, .mov (.t 0), none⟩, ⟨some 24, .load true 2 (.t 9), none⟩, ⟨some 25, .call 61 [.t 23, .t 24], none⟩, ⟨some 0, .mov (.t 25), none⟩])))))) (.kl [9, 23, 24, 25] (.reg [⟨some 26, .bin .add (.t 12) (.c (.int .i64 1)), none⟩, ⟨some 12, .mov (.t 26), none⟩]))))))
def lp68_0 : C := lb68_0
def fi68 : FI := ⟨.seq (.reg [⟨some 6, .mov (.c (.str [])), none⟩, ⟨some 7, .mov (.c (.int .i64 0)), none⟩]) (.kl [6, 7] (.seq (.seq (.reg [⟨some 10, .mov (.t 1), none⟩, ⟨some 11, .lenV (.t 10), none⟩, ⟨some 12, .mov (.c (.int .i64 0)), none⟩]) (.blk 0 (.loop lp68_0))) (.seq (.reg [⟨some 27, .mov (.t 0), none⟩, ⟨some 28, .mov (.t 1), none⟩, ⟨some 29, .lenV (.t 28), none⟩, ⟨some 6, .mov (.t 27), none⟩, ⟨some 7, .mov (.t 29), none⟩]) (.kl [0, 1, 27, 28, 29] (.ret))))), [.tmp 6, .tmp 7]⟩
/-- impl.can -/
def fi435 : FI := ⟨.seq (.reg [⟨some 3, .box (.t 1), none⟩, ⟨some 4, .mov (.c (.bool false)), none⟩]) (.kl [1, 4] (.seq (.seq (.reg [⟨some 7, .faddr 0 1 (.t 3), none⟩, ⟨some 8, .load false 1 (.t 7), none⟩, ⟨some 9, .mov (.t 0), none⟩, ⟨some 10, .lenS (.t 9), none⟩, ⟨some 11, .bin .sub (.t 10) (.c (.int .i64 1)), none⟩, ⟨some 12, .call 74 [.t 8, .c (.int .i64 0), .t 11], none⟩, ⟨some 13, .un .not (.t 12), none⟩]) (.kl [7, 8, 9, 10, 11, 12] (.cond (.t 13) (.kl [0, 3, 13] (.seq (.reg [⟨some 4, .mov (.c (.bool false)), none⟩]) (.ret))) (.skip)))) (.kl [13] (.seq (.reg [⟨some 15, .mov (.t 0), none⟩, ⟨some 16, .faddr 0 1 (.t 3), none⟩, ⟨some 17, .load false 1 (.t 16), none⟩, ⟨some 18, .call 127 [.t 15, .t 17], none⟩, ⟨some 14, .mov (.t 18), none⟩, ⟨some 19, .prj 0 (.t 14), none⟩, ⟨some 20, .prj 1 (.t 14), none⟩, ⟨some 5, .mov (.t 19), none⟩, ⟨some 6, .mov (.t 20), none⟩]) (.kl [0, 14, 15, 16, 17, 18, 19, 20] (.seq (.reg [⟨some 21, .mov (.t 6), none⟩, ⟨some 22, .mov (.t 21), none⟩, ⟨some 23, .mov (.t 5), some (22, true)⟩, ⟨some 24, .faddr 1 1 (.t 3), some (22, true)⟩, ⟨some 25, .load false 1 (.t 24), some (22, true)⟩, ⟨some 26, .bin .eql (.t 23) (.t 25), some (22, true)⟩, ⟨some 27, .pick (.t 22) (.t 26) (.c (.bool false)), none⟩, ⟨some 4, .mov (.t 27), none⟩]) (.kl [3, 5, 6, 21, 22, 23, 24, 25, 26, 27] (.ret)))))))), [.tmp 4]⟩
/-- spec.liAsked -/
def fi444 : FI := ⟨.seq (.reg [⟨some 4, .mov (.c (.bool false)), none⟩]) (.kl [4] (.seq (.reg [⟨some 5, .mov (.t 0), none⟩, ⟨some 6, .call 104 [.t 5], none⟩, ⟨some 7, .mov (.t 6), none⟩, ⟨some 8, .mov (.t 1), some (7, true)⟩, ⟨some 9, .lenV (.t 8), some (7, true)⟩, ⟨some 10, .bin .leq (.t 9) (.c (.int .i64 100)), some (7, true)⟩, ⟨some 11, .pick (.t 7) (.t 10) (.c (.bool false)), none⟩, ⟨some 4, .mov (.t 11), none⟩]) (.kl [0, 1, 5, 6, 7, 8, 9, 10, 11] (.ret)))), [.tmp 4]⟩
-- lp445_0 HEAD [0, 1, 8, 9, 10] | exit 0: [0, 1] | ret: [4, 5]
/-- spec.liPlay -/
def lb445_0 : C := .kl [24] (.seq (.reg [⟨some 11, .bin .lss (.t 10) (.t 9), none⟩]) (.seq (.cond (.t 11) (.skip) (.kl [8, 9, 10, 11] (.exit 0))) (.kl [11] (.seq (.blk 1 (.seq (.reg [⟨some 12, .mov (.t 10), none⟩, ⟨some 13, .iaddr 2 (.t 8) (.t 10), none⟩, ⟨some 14, .load true 2 (.t 13), none⟩, ⟨some 7, .new [.int .i64 0, .int .i64 0], none⟩, ⟨some 6, .mov (.t 12), none⟩, ⟨none, .store 2 (.t 7) (.t 14), none⟩]) (.kl [12, 13, 14] (.seq (.seq (.reg [⟨some 15, .mov (.t 0), none⟩, ⟨some 16, .load true 2 (.t 7), none⟩, ⟨some 17, .call 130 [.t 15, .t 16], none⟩, ⟨some 18, .un .not (.t 17), none⟩]) (.kl [15, 16, 17] (.cond (.t 18) (.kl [1, 7, 8, 9, 10, 18] (.seq (.reg [⟨some 19, .mov (.t 0), none⟩, ⟨some 20, .mov (.t 6), none⟩, ⟨some 4, .mov (.t 19), none⟩, ⟨some 5, .mov (.t 20), none⟩]) (.kl [0, 6, 19, 20] (.ret)))) (.skip)))) (.kl [6, 18] (.reg [⟨some 21, .mov (.t 0), none⟩, ⟨some 22, .load true 2 (.t 7), none⟩, ⟨some 23, .call 66 [.t 21, .t 22], none⟩, ⟨some 0, .mov (.t 23), none⟩])))))) (.kl [7, 21, 22, 23] (.reg [⟨some 24, .bin .add (.t 10) (.c (.int .i64 1)), none⟩, ⟨some 10, .mov (.t 24), none⟩]))))))
def lp445_0 : C := lb445_0
def fi445 : FI := ⟨.seq (.reg [⟨some 4, .mov (.c (.str [])), none⟩, ⟨some 5, .mov (.c (.int .i64 0)), none⟩]) (.kl [4, 5] (.seq (.seq (.reg [⟨some 8, .mov (.t 1), none⟩, ⟨some 9, .lenV (.t 8), none⟩, ⟨some 10, .mov (.c (.int .i64 0)), none⟩]) (.blk 0 (.loop lp445_0))) (.seq (.reg [⟨some 25, .mov (.t 0), none⟩, ⟨some 26, .mov (.t 1), none⟩, ⟨some 27, .lenV (.t 26), none⟩, ⟨some 4, .mov (.t 25), none⟩, ⟨some 5, .mov (.t 27), none⟩]) (.kl [0, 1, 25, 26, 27] (.ret))))), [.tmp 4, .tmp 5]⟩
-- lp191_0 HEAD [0, 3, 4, 7, 8] | exit 0: [3]
/-- impl.pairs -/
def lb191_0 : C := .kl [23] (.seq (.reg [⟨some 9, .bin .lss (.t 8) (.t 7), none⟩]) (.seq (.cond (.t 9) (.skip) (.kl [0, 4, 7, 8, 9] (.exit 0))) (.kl [9] (.seq (.blk 1 (.seq (.reg [⟨some 10, .mov (.t 8), none⟩, ⟨some 5, .mov (.t 10), none⟩]) (.kl [10] (.seq (.reg [⟨some 11, .mov (.t 0), none⟩, ⟨some 12, .mov (.t 5), none⟩, ⟨some 13, .idxS (.t 11) (.t 12), none⟩]) (.kl [5, 11, 12] (.blk 2 (.seq (.reg [⟨some 15, .bin .eql (.t 13) (.c (.int .u8 84)), none⟩, ⟨some 14, .mov (.t 15), none⟩]) (.kl [15] (.cond (.t 14) (.kl [13, 14] (.reg [⟨some 16, .mov (.t 4), none⟩, ⟨some 17, .bin .add (.t 16) (.c (.int .i64 1)), none⟩, ⟨some 4, .mov (.t 17), none⟩])) (.kl [14] (.seq (.reg [⟨some 19, .bin .eql (.t 13) (.c (.int .u8 70)), none⟩, ⟨some 18, .mov (.t 19), none⟩]) (.kl [13, 19] (.cond (.t 18) (.kl [18] (.reg [⟨some 20, .mov (.t 3), none⟩, ⟨some 21, .mov (.t 4), none⟩, ⟨some 22, .bin .add (.t 20) (.t 21), none⟩, ⟨some 3, .mov (.t 22), none⟩])) (.skip)))))))))))))) (.kl [16, 17, 18, 20, 21, 22] (.reg [⟨some 23, .bin .add (.t 8) (.c (.int .i64 1)), none⟩, ⟨some 8, .mov (.t 23), none⟩]))))))
def lp191_0 : C := lb191_0
def fi191 : FI := ⟨.seq (.reg [⟨some 2, .mov (.c (.int .i64 0)), none⟩]) (.kl [2] (.seq (.reg [⟨some 3, .mov (.c (.int .i64 0)), none⟩, ⟨some 4, .mov (.c (.int .i64 0)), none⟩]) (.seq (.seq (.reg [⟨some 6, .mov (.t 0), none⟩, ⟨some 7, .lenS (.t 6), none⟩, ⟨some 8, .mov (.c (.int .i64 0)), none⟩]) (.kl [6] (.blk 0 (.loop lp191_0)))) (.seq (.reg [⟨some 24, .mov (.t 3), none⟩, ⟨some 2, .mov (.t 24), none⟩]) (.kl [3, 24] (.ret)))))), [.tmp 2]⟩
/-- impl.made -/
def fi61 : FI := ⟨.seq (.reg [⟨some 3, .box (.t 1), none⟩, ⟨some 4, .mov (.c (.str [])), none⟩]) (.kl [1, 4] (.seq (.reg [⟨some 6, .mov (.t 0), none⟩, ⟨some 7, .toB (.t 6), none⟩, ⟨some 5, .mov (.t 7), none⟩]) (.kl [0, 6, 7] (.seq (.drw [⟨some 8, .mov (.t 5), none⟩, ⟨some 9, .faddr 1 1 (.t 3), none⟩, ⟨some 10, .load false 1 (.t 9), none⟩, ⟨some 11, .mov (.t 5), none⟩, ⟨some 12, .faddr 0 1 (.t 3), none⟩, ⟨some 13, .load false 1 (.t 12), none⟩, ⟨some 14, .mov (.t 5), none⟩, ⟨some 15, .faddr 0 1 (.t 3), none⟩, ⟨some 16, .load false 1 (.t 15), none⟩, ⟨some 17, .iaddr 1 (.t 14) (.t 16), none⟩, ⟨some 18, .load false 1 (.t 17), none⟩, ⟨some 19, .iaddr 1 (.t 8) (.t 10), none⟩, ⟨none, .store 1 (.t 19) (.t 18), none⟩, ⟨some 20, .iaddr 1 (.t 11) (.t 13), none⟩, ⟨none, .store 1 (.t 20) (.c (.int .u8 46)), none⟩] [(5, 12)]) (.kl [3, 8, 9, 10, 11, 12, 13, 14, 15, 16, 17, 18, 19, 20] (.seq (.reg [⟨some 21, .mov (.t 5), none⟩, ⟨some 22, .ofB (.t 21), none⟩, ⟨some 4, .mov (.t 22), none⟩]) (.kl [5, 21, 22] (.ret)))))))), [.tmp 4]⟩
/-- spec.liMake -/
def fi66 : FI := ⟨.seq (.reg [⟨some 3, .box (.t 1), none⟩, ⟨some 4, .mov (.c (.str [])), none⟩]) (.kl [1, 4] (.seq (.reg [⟨some 6, .mov (.t 0), none⟩, ⟨some 7, .faddr 0 1 (.t 3), none⟩, ⟨some 8, .load false 1 (.t 7), none⟩, ⟨some 9, .faddr 0 1 (.t 3), none⟩, ⟨some 10, .load false 1 (.t 9), none⟩, ⟨some 11, .bin .add (.t 10) (.c (.int .i64 1)), none⟩, ⟨some 12, .subS (.t 6) (some (.t 8)) (some (.t 11)), none⟩, ⟨some 5, .mov (.t 12), none⟩]) (.kl [6, 7, 8, 9, 10, 11, 12] (.seq (.drw [⟨some 13, .mov (.t 0), none⟩, ⟨some 14, .faddr 0 1 (.t 3), none⟩, ⟨some 15, .load false 1 (.t 14), none⟩, ⟨some 16, .call 108 [.t 13, .t 15, .c (.str [46])], none⟩, ⟨some 17, .faddr 1 1 (.t 3), none⟩, ⟨some 18, .load false 1 (.t 17), none⟩, ⟨some 19, .mov (.t 5), none⟩, ⟨some 20, .call 108 [.t 16, .t 18, .t 19], none⟩, ⟨some 4, .mov (.t 20), none⟩] [(5, 3)]) (.kl [0, 3, 5, 13, 14, 15, 16, 17, 18, 19, 20] (.ret)))))), [.tmp 4]⟩
/-- (*spec.l1Cur).one -/
def fi64 : FI := ⟨.seq (.reg [⟨some 4, .mov (.c (.bool false)), none⟩]) (.kl [4] (.seq (.reg [⟨some 5, .mov (.t 0), none⟩, ⟨some 6, .mov (.t 1), none⟩, ⟨some 7, .call 63 [.t 5, .t 6], none⟩, ⟨some 8, .bin .eql (.t 7) (.c (.int .i64 0)), none⟩, ⟨some 4, .mov (.t 8), none⟩]) (.kl [0, 1, 5, 6, 7, 8] (.ret)))), [.tmp 4]⟩
/-- impl.isLineOf -/
def fi82 : FI := ⟨.seq (.reg [⟨some 4, .mov (.c (.bool false)), none⟩]) (.kl [4] (.seq (.reg [⟨some 5, .mov (.t 0), none⟩, ⟨some 6, .lenS (.t 5), none⟩, ⟨some 7, .mov (.t 1), none⟩, ⟨some 8, .call 74 [.t 6, .c (.int .i64 1), .t 7], none⟩, ⟨some 9, .mov (.t 8), none⟩, ⟨some 10, .mov (.t 0), some (9, true)⟩, ⟨some 11, .call 111 [.t 10, .c (.str [46, 70, 84])], some (9, true)⟩, ⟨some 12, .bin .eql (.t 11) (.c (.str [])), some (9, true)⟩, ⟨some 13, .pick (.t 9) (.t 12) (.c (.bool false)), none⟩, ⟨some 4, .mov (.t 13), none⟩]) (.kl [0, 1, 5, 6, 7, 8, 9, 10, 11, 12, 13] (.ret)))), [.tmp 4]⟩
/-- impl.ordered -/
def fi246 : FI := ⟨.seq (.reg [⟨some 10, .mov (.c (.str [])), none⟩]) (.kl [10] (.seq (.reg [⟨some 11, .mov (.t 0), none⟩, ⟨some 12, .ofR (.t 11), none⟩, ⟨some 13, .mov (.t 1), none⟩, ⟨some 14, .call 123 [.t 12, .t 13], none⟩, ⟨some 15, .mov (.t 2), none⟩, ⟨some 16, .call 123 [.c (.str [46]), .t 15], none⟩, ⟨some 17, .bin .add (.t 14) (.t 16), none⟩, ⟨some 18, .mov (.t 3), none⟩, ⟨some 19, .ofR (.t 18), none⟩, ⟨some 20, .mov (.t 4), none⟩, ⟨some 21, .call 123 [.t 19, .t 20], none⟩, ⟨some 22, .bin .add (.t 17) (.t 21), none⟩, ⟨some 10, .mov (.t 22), none⟩]) (.kl [0, 1, 2, 3, 4, 11, 12, 13, 14, 15, 16, 17, 18, 19, 20, 21, 22] (.ret)))), [.tmp 10]⟩
-- lp124_0 HEAD [0, 1, 5] | exit 0: [5]
/-- spec.liTimes -/
def lb124_0 : C := .kl [8, 9] (.seq (.seq (.reg [⟨some 6, .mov (.t 1), none⟩, ⟨some 7, .bin .gtr (.t 6) (.c (.int .i64 0)), none⟩]) (.kl [6] (.cond (.t 7) (.skip) (.kl [0, 1, 7] (.exit 0))))) (.kl [7] (.seq (.blk 1 (.reg [⟨some 10, .mov (.t 5), none⟩, ⟨some 11, .mov (.t 0), none⟩, ⟨some 12, .bin .add (.t 10) (.t 11), none⟩, ⟨some 5, .mov (.t 12), none⟩])) (.kl [10, 11, 12] (.reg [⟨some 8, .mov (.t 1), none⟩, ⟨some 9, .bin .sub (.t 8) (.c (.int .i64 1)), none⟩, ⟨some 1, .mov (.t 9), none⟩])))))
def lp124_0 : C := lb124_0
def fi124 : FI := ⟨.seq (.reg [⟨some 4, .mov (.c (.str [])), none⟩]) (.kl [4] (.seq (.reg [⟨some 5, .mov (.c (.str [])), none⟩]) (.seq (.blk 0 (.loop lp124_0)) (.seq (.reg [⟨some 13, .mov (.t 5), none⟩, ⟨some 4, .mov (.t 13), none⟩]) (.kl [5, 13] (.ret)))))), [.tmp 4]⟩
/-- (*spec.l1Cur).among -/
def fi62 : FI := ⟨.seq (.reg [⟨some 4, .mov (.c (.int .i64 0)), none⟩]) (.kl [4] (.seq (.reg [⟨some 5, .mov (.t 1), none⟩, ⟨some 6, .mov (.t 0), none⟩, ⟨some 7, .mov (.t 1), none⟩, ⟨some 8, .lenV (.t 7), none⟩, ⟨some 9, .call 63 [.t 6, .t 8], none⟩, ⟨some 10, .iaddr 1 (.t 5) (.t 9), none⟩, ⟨some 11, .load false 1 (.t 10), none⟩, ⟨some 4, .mov (.t 11), none⟩]) (.kl [0, 1, 5, 6, 7, 8, 9, 10, 11] (.ret)))), [.tmp 4]⟩
-- lp114_0 HEAD [1, 2, 9, 10, 11] | exit 0: [] | ret: [6]
/-- spec.l1All -/
def lb114_0 : C := .kl [20] (.seq (.reg [⟨some 12, .bin .lss (.t 11) (.t 10), none⟩]) (.seq (.cond (.t 12) (.skip) (.kl [1, 2, 9, 10, 11, 12] (.exit 0))) (.kl [12] (.seq (.blk 1 (.seq (.reg [⟨some 13, .iaddr 1 (.t 9) (.t 11), none⟩, ⟨some 14, .load false 1 (.t 13), none⟩, ⟨some 8, .mov (.t 14), none⟩]) (.kl [13, 14] (.seq (.reg [⟨some 15, .mov (.t 8), none⟩, ⟨some 16, .mov (.t 1), none⟩, ⟨some 17, .mov (.t 2), none⟩, ⟨some 18, .call 77 [.t 15, .t 16, .t 17], none⟩, ⟨some 19, .un .not (.t 18), none⟩]) (.kl [8, 15, 16, 17, 18] (.cond (.t 19) (.kl [1, 2, 9, 10, 11, 19] (.seq (.reg [⟨some 6, .mov (.c (.bool false)), none⟩]) (.ret))) (.skip))))))) (.kl [19] (.reg [⟨some 20, .bin .add (.t 11) (.c (.int .i64 1)), none⟩, ⟨some 11, .mov (.t 20), none⟩]))))))
def lp114_0 : C := lb114_0
def fi114 : FI := ⟨.seq (.reg [⟨some 6, .mov (.c (.bool false)), none⟩]) (.kl [6] (.seq (.seq (.reg [⟨some 9, .mov (.t 0), none⟩, ⟨some 10, .lenV (.t 9), none⟩, ⟨some 11, .mov (.c (.int .i64 0)), none⟩]) (.kl [0] (.blk 0 (.loop lp114_0)))) (.seq (.reg [⟨some 6, .mov (.c (.bool true)), none⟩]) (.ret)))), [.tmp 6]⟩
/-- (*spec.l1Cur).next -/
def fi107 : FI := ⟨.seq (.reg [⟨some 2, .mov (.c (.int .i64 0)), none⟩]) (.kl [2] (.seq (.reg [⟨some 3, .mov (.c (.int .i64 0)), none⟩]) (.seq (.seq (.drw [⟨some 4, .mov (.t 0), none⟩, ⟨some 5, .nck (.t 4), none⟩, ⟨some 6, .faddr 1 1 (.t 5), none⟩, ⟨some 7, .load false 1 (.t 6), none⟩, ⟨some 8, .mov (.t 0), none⟩, ⟨some 9, .nck (.t 8), none⟩, ⟨some 10, .faddr 0 1 (.t 9), none⟩, ⟨some 11, .load false 1 (.t 10), none⟩, ⟨some 12, .lenV (.t 11), none⟩, ⟨some 13, .bin .lss (.t 7) (.t 12), none⟩] []) (.kl [4, 5, 6, 7, 8, 9, 10, 11, 12] (.cond (.t 13) (.kl [3, 13] (.drw [⟨some 14, .mov (.t 0), none⟩, ⟨some 15, .nck (.t 14), none⟩, ⟨some 16, .faddr 0 1 (.t 15), none⟩, ⟨some 17, .load false 1 (.t 16), none⟩, ⟨some 18, .mov (.t 0), none⟩, ⟨some 19, .nck (.t 18), none⟩, ⟨some 20, .faddr 1 1 (.t 19), none⟩, ⟨some 21, .load false 1 (.t 20), none⟩, ⟨some 22, .iaddr 1 (.t 17) (.t 21), none⟩, ⟨some 23, .load false 1 (.t 22), none⟩, ⟨some 24, .conv .i64 (.t 23), none⟩, ⟨some 3, .mov (.t 24), none⟩] [])) (.skip)))) (.kl [13, 14, 15, 16, 17, 18, 19, 20, 21, 22, 23, 24] (.seq (.reg [⟨some 25, .mov (.t 0), none⟩, ⟨some 26, .nck (.t 25), none⟩, ⟨some 27, .faddr 1 1 (.t 26), none⟩, ⟨some 28, .load false 1 (.t 27), none⟩, ⟨some 29, .bin .add (.t 28) (.c (.int .i64 1)), none⟩, ⟨some 30, .nck (.t 25), none⟩, ⟨some 31, .faddr 1 1 (.t 30), none⟩, ⟨none, .store 1 (.t 31) (.t 29), none⟩]) (.kl [25, 26, 27, 28, 29, 30, 31] (.seq (.reg [⟨some 32, .mov (.t 0), none⟩, ⟨some 33, .mov (.t 0), none⟩, ⟨some 34, .nck (.t 33), none⟩, ⟨some 35, .faddr 2 1 (.t 34), none⟩, ⟨some 36, .load false 1 (.t 35), none⟩, ⟨some 37, .bin .mul (.t 36) (.c (.int .u64 6364136223846793005)), none⟩, ⟨some 38, .mov (.t 3), none⟩, ⟨some 39, .conv .u64 (.t 38), none⟩, ⟨some 40, .bin .add (.t 37) (.t 39), none⟩, ⟨some 41, .bin .add (.t 40) (.c (.int .u64 1442695040888963407)), none⟩, ⟨some 42, .nck (.t 32), none⟩, ⟨some 43, .faddr 2 1 (.t 42), none⟩, ⟨none, .store 1 (.t 43) (.t 41), none⟩]) (.kl [32, 33, 34, 35, 36, 37, 38, 39, 40, 41, 42, 43] (.seq (.seq (.drw [⟨some 44, .mov (.t 0), none⟩, ⟨some 45, .nck (.t 44), none⟩, ⟨some 46, .faddr 1 1 (.t 45), none⟩, ⟨some 47, .load false 1 (.t 46), none⟩, ⟨some 48, .mov (.t 0), none⟩, ⟨some 49, .nck (.t 48), none⟩, ⟨some 50, .faddr 0 1 (.t 49), none⟩, ⟨some 51, .load false 1 (.t 50), none⟩, ⟨some 52, .lenV (.t 51), none⟩, ⟨some 53, .bin .leq (.t 47) (.t 52), none⟩] []) (.kl [44, 45, 46, 47, 48, 49, 50, 51, 52] (.cond (.t 53) (.kl [0, 53] (.seq (.reg [⟨some 54, .mov (.t 3), none⟩, ⟨some 2, .mov (.t 54), none⟩]) (.kl [3, 54] (.ret)))) (.skip)))) (.kl [3, 53] (.seq (.reg [⟨some 55, .mov (.t 0), none⟩, ⟨some 56, .nck (.t 55), none⟩, ⟨some 57, .faddr 2 1 (.t 56), none⟩, ⟨some 58, .load false 1 (.t 57), none⟩, ⟨some 59, .bin .shr (.t 58) (.c (.int .u64 40)), none⟩, ⟨some 60, .bin .and (.t 59) (.c (.int .u64 255)), none⟩, ⟨some 61, .conv .i64 (.t 60), none⟩, ⟨some 2, .mov (.t 61), none⟩]) (.kl [0, 55, 56, 57, 58, 59, 60, 61] (.ret))))))))))))), [.tmp 2]⟩
/-- (*spec.l1Cur).of -/
def fi71 : FI := ⟨.seq (.reg [⟨some 4, .mov (.c (.str [])), none⟩]) (.kl [4] (.seq (.reg [⟨some 5, .mov (.t 1), none⟩, ⟨some 6, .mov (.t 0), none⟩, ⟨some 7, .mov (.t 1), none⟩, ⟨some 8, .lenV (.t 7), none⟩, ⟨some 9, .call 63 [.t 6, .t 8], none⟩, ⟨some 10, .iaddr 1 (.t 5) (.t 9), none⟩, ⟨some 11, .load false 1 (.t 10), none⟩, ⟨some 4, .mov (.t 11), none⟩]) (.kl [0, 1, 5, 6, 7, 8, 9, 10, 11] (.ret)))), [.tmp 4]⟩
-- lp99_0 HEAD [0, 5, 6] | exit 0: [0, 5]
/-- (*spec.l1Cur).sureLine -/
def lb99_0 : C := .kl [13, 14] (.seq (.seq (.reg [⟨some 11, .mov (.t 6), none⟩, ⟨some 12, .bin .gtr (.t 11) (.c (.int .i64 0)), none⟩]) (.kl [11] (.cond (.t 12) (.skip) (.kl [6, 12] (.exit 0))))) (.kl [12] (.seq (.blk 1 (.reg [⟨some 15, .mov (.t 5), none⟩, ⟨some 16, .mov (.t 0), none⟩, ⟨some 17, .lit 1 5 [.str [], .str [], .str [], .str [], .str []] [(0, 1, .c (.str [84])), (1, 1, .c (.str [70])), (2, 1, .c (.str [46])), (3, 1, .c (.str [84])), (4, 1, .c (.str [70]))], none⟩, ⟨some 18, .call 71 [.t 16, .t 17], none⟩, ⟨some 19, .bin .add (.t 15) (.t 18), none⟩, ⟨some 5, .mov (.t 19), none⟩])) (.kl [15, 16, 17, 18, 19] (.reg [⟨some 13, .mov (.t 6), none⟩, ⟨some 14, .bin .sub (.t 13) (.c (.int .i64 1)), none⟩, ⟨some 6, .mov (.t 14), none⟩])))))
def lp99_0 : C := lb99_0
def fi99 : FI := ⟨.seq (.reg [⟨some 4, .mov (.c (.str [])), none⟩]) (.kl [4] (.seq (.reg [⟨some 5, .mov (.c (.str [])), none⟩]) (.seq (.seq (.reg [⟨some 7, .mov (.t 0), none⟩, ⟨some 8, .mov (.t 1), none⟩, ⟨some 9, .call 63 [.t 7, .t 8], none⟩, ⟨some 10, .bin .add (.c (.int .i64 1)) (.t 9), none⟩, ⟨some 6, .mov (.t 10), none⟩]) (.kl [1, 7, 8, 9, 10] (.blk 0 (.loop lp99_0)))) (.seq (.seq (.reg [⟨some 20, .mov (.t 5), none⟩, ⟨some 21, .call 116 [.t 20, .c (.int .u8 46)], none⟩, ⟨some 22, .bin .eql (.t 21) (.c (.int .i64 0)), none⟩, ⟨some 23, .mov (.t 22), none⟩, ⟨some 24, .mov (.t 0), some (23, true)⟩, ⟨some 25, .call 64 [.t 24, .c (.int .i64 8)], some (23, true)⟩, ⟨some 26, .un .not (.t 25), some (23, true)⟩, ⟨some 27, .pick (.t 23) (.t 26) (.c (.bool false)), none⟩]) (.kl [20, 21, 22, 23, 24, 25, 26] (.cond (.t 27) (.kl [27] (.seq (.reg [⟨some 28, .mov (.t 5), none⟩, ⟨some 29, .mov (.t 0), none⟩, ⟨some 30, .mov (.t 5), none⟩, ⟨some 31, .lenS (.t 30), none⟩, ⟨some 32, .call 63 [.t 29, .t 31], none⟩, ⟨some 33, .call 108 [.t 28, .t 32, .c (.str [46])], none⟩, ⟨some 4, .mov (.t 33), none⟩]) (.kl [0, 5, 28, 29, 30, 31, 32, 33] (.ret)))) (.skip)))) (.kl [0, 27] (.seq (.reg [⟨some 34, .mov (.t 5), none⟩, ⟨some 4, .mov (.t 34), none⟩]) (.kl [5, 34] (.ret)))))))), [.tmp 4]⟩
-- lp119_0 HEAD [0, 1, 2, 7, 12] | exit 0: [7] | exit 1: [0, 1, 2, 7, 12] | exit 2: [0, 1, 2, 7, 12]
-- lp119_1 HEAD [0, 1, 2, 7, 8, 9, 12] | exit 2: [0, 1, 2, 7, 12]
/-- spec.liMoves -/
def lb119_1 : C := .kl [40, 41] (.seq (.seq (.reg [⟨some 36, .mov (.t 9), none⟩, ⟨some 37, .mov (.t 8), none⟩, ⟨some 38, .bin .add (.t 37) (.c (.int .i64 2)), none⟩, ⟨some 39, .bin .leq (.t 36) (.t 38), none⟩]) (.kl [36, 37, 38] (.cond (.t 39) (.skip) (.kl [8, 9, 39] (.exit 2))))) (.kl [39] (.seq (.blk 3 (.seq (.reg [⟨some 42, .mov (.t 8), none⟩, ⟨some 43, .mov (.t 9), none⟩, ⟨some 44, .build [.int .i64 0, .int .i64 0] [(0, 1, .t 42), (1, 1, .t 43)], none⟩, ⟨some 10, .new [.int .i64 0, .int .i64 0], none⟩, ⟨none, .store 2 (.t 10) (.t 44), none⟩]) (.kl [42, 43, 44] (.seq (.reg [⟨some 45, .mov (.t 0), none⟩, ⟨some 46, .load true 2 (.t 10), none⟩, ⟨some 47, .call 130 [.t 45, .t 46], none⟩]) (.kl [45, 46] (.cond (.t 47) (.kl [47] (.reg [⟨some 48, .mov (.t 7), none⟩, ⟨some 49, .load true 2 (.t 10), none⟩, ⟨some 50, .lit 2 1 [.int .i64 0, .int .i64 0] [(0, 2, .t 49)], none⟩, ⟨some 51, .app 2 (.t 48) (.t 50), none⟩, ⟨some 7, .mov (.t 51), none⟩])) (.skip))))))) (.kl [10, 47, 48, 49, 50, 51] (.reg [⟨some 40, .mov (.t 9), none⟩, ⟨some 41, .bin .add (.t 40) (.c (.int .i64 1)), none⟩, ⟨some 9, .mov (.t 41), none⟩])))))
def lp119_1 : C := lb119_1
def lb119_0 : C := .kl [] (.seq (.reg [⟨some 13, .nxt (.t 12), none⟩, ⟨some 14, .prj 0 (.t 13), none⟩]) (.seq (.cond (.t 14) (.skip) (.kl [0, 1, 2, 12, 13, 14] (.exit 0))) (.kl [14] (.blk 1 (.seq (.reg [⟨some 15, .prj 1 (.t 13), none⟩, ⟨some 8, .mov (.t 15), none⟩]) (.kl [13, 15] (.seq (.seq (.reg [⟨some 16, .mov (.t 0), none⟩, ⟨some 17, .mov (.t 8), none⟩, ⟨some 18, .idxS (.t 16) (.t 17), none⟩, ⟨some 19, .bin .eql (.t 18) (.c (.int .u8 84)), none⟩, ⟨some 20, .mov (.t 19), none⟩, ⟨some 21, .mov (.t 1), some (20, true)⟩, ⟨some 22, .un .not (.t 21), some (20, true)⟩, ⟨some 23, .pick (.t 20) (.t 22) (.c (.bool false)), none⟩, ⟨some 24, .mov (.t 23), none⟩, ⟨some 25, .mov (.t 0), some (24, false)⟩, ⟨some 26, .mov (.t 8), some (24, false)⟩, ⟨some 27, .idxS (.t 25) (.t 26), some (24, false)⟩, ⟨some 28, .bin .eql (.t 27) (.c (.int .u8 70)), some (24, false)⟩, ⟨some 29, .mov (.t 28), some (24, false)⟩, ⟨some 30, .mov (.t 2), some (29, true)⟩, ⟨some 31, .un .not (.t 30), some (29, true)⟩, ⟨some 32, .pick (.t 29) (.t 31) (.c (.bool false)), some (24, false)⟩, ⟨some 33, .pick (.t 24) (.c (.bool true)) (.t 32), none⟩]) (.kl [16, 17, 18, 19, 20, 21, 22, 23, 24, 25, 26, 27, 28, 29, 30, 31, 32] (.cond (.t 33) (.kl [8, 33] (.exit 1)) (.skip)))) (.kl [33] (.seq (.reg [⟨some 34, .mov (.t 8), none⟩, ⟨some 35, .bin .sub (.t 34) (.c (.int .i64 2)), none⟩, ⟨some 9, .mov (.t 35), none⟩]) (.kl [34, 35] (.blk 2 (.loop lp119_1))))))))))))
def lp119_0 : C := lb119_0
def fi119 : FI := ⟨.seq (.reg [⟨some 6, .mov (.c (.nilS)), none⟩]) (.kl [6] (.seq (.reg [⟨some 7, .mov (.c (.nilS)), none⟩]) (.seq (.seq (.reg [⟨some 11, .mov (.t 0), none⟩, ⟨some 12, .rng (.t 11), none⟩]) (.kl [11] (.blk 0 (.loop lp119_0)))) (.seq (.reg [⟨some 52, .mov (.t 7), none⟩, ⟨some 6, .mov (.t 52), none⟩]) (.kl [7, 52] (.ret)))))), [.tmp 6]⟩
/-- impl.goal -/
def fi127 : FI := ⟨.seq (.reg [⟨some 4, .mov (.c (.int .i64 0)), none⟩, ⟨some 5, .mov (.c (.bool false)), none⟩]) (.kl [4, 5] (.seq (.reg [⟨some 7, .mov (.t 0), none⟩, ⟨some 8, .mov (.t 1), none⟩, ⟨some 9, .idxS (.t 7) (.t 8), none⟩, ⟨some 10, .call 103 [.t 9], none⟩, ⟨some 6, .mov (.t 10), none⟩]) (.kl [7, 8, 9, 10] (.seq (.blk 0 (.seq (.reg [⟨some 12, .mov (.t 6), none⟩, ⟨some 13, .bin .eql (.t 12) (.c (.int .i64 0)), none⟩, ⟨some 11, .mov (.t 13), none⟩]) (.kl [12, 13] (.cond (.t 11) (.skip) (.kl [11] (.seq (.reg [⟨some 15, .mov (.t 0), none⟩, ⟨some 16, .mov (.t 1), none⟩, ⟨some 17, .mov (.t 6), none⟩, ⟨some 18, .bin .add (.t 16) (.t 17), none⟩, ⟨some 19, .call 125 [.t 15, .t 18], none⟩, ⟨some 20, .bin .eql (.t 19) (.c (.int .u8 46)), none⟩, ⟨some 14, .mov (.t 20), none⟩]) (.kl [15, 16, 17, 18, 19, 20] (.cond (.t 14) (.kl [0, 14] (.seq (.reg [⟨some 21, .mov (.t 1), none⟩, ⟨some 22, .mov (.t 6), none⟩, ⟨some 23, .bin .add (.t 21) (.t 22), none⟩, ⟨some 4, .mov (.t 23), none⟩, ⟨some 5, .mov (.c (.bool true)), none⟩]) (.kl [1, 6, 21, 22, 23] (.ret)))) (.kl [14] (.seq (.drw [⟨some 25, .mov (.t 0), none⟩, ⟨some 26, .mov (.t 1), none⟩, ⟨some 27, .mov (.t 6), none⟩, ⟨some 28, .bin .add (.t 26) (.t 27), none⟩, ⟨some 29, .call 125 [.t 25, .t 28], none⟩, ⟨some 30, .mov (.t 0), none⟩, ⟨some 31, .mov (.t 1), none⟩, ⟨some 32, .idxS (.t 30) (.t 31), none⟩, ⟨some 33, .call 109 [.t 32], none⟩, ⟨some 34, .bin .eql (.t 29) (.t 33), none⟩, ⟨some 35, .mov (.t 34), none⟩, ⟨some 36, .mov (.t 0), some (35, true)⟩, ⟨some 37, .mov (.t 1), some (35, true)⟩, ⟨some 38, .mov (.t 6), some (35, true)⟩, ⟨some 39, .bin .mul (.c (.int .i64 2)) (.t 38), some (35, true)⟩, ⟨some 40, .bin .add (.t 37) (.t 39), some (35, true)⟩, ⟨some 41, .call 125 [.t 36, .t 40], some (35, true)⟩, ⟨some 42, .bin .eql (.t 41) (.c (.int .u8 46)), some (35, true)⟩, ⟨some 43, .pick (.t 35) (.t 42) (.c (.bool false)), none⟩, ⟨some 24, .mov (.t 43), none⟩] []) (.kl [0, 25, 26, 27, 28, 29, 30, 31, 32, 33, 34, 35, 36, 37, 38, 39, 40, 41, 42, 43] (.cond (.t 24) (.kl [24] (.seq (.reg [⟨some 44, .mov (.t 1), none⟩, ⟨some 45, .mov (.t 6), none⟩, ⟨some 46, .bin .mul (.c (.int .i64 2)) (.t 45), none⟩, ⟨some 47, .bin .add (.t 44) (.t 46), none⟩, ⟨some 4, .mov (.t 47), none⟩, ⟨some 5, .mov (.c (.bool true)), none⟩]) (.kl [1, 6, 44, 45, 46, 47] (.ret)))) (.skip))))))))))))) (.kl [0, 1, 6, 11, 24] (.seq (.reg [⟨some 4, .mov (.c (.int .i64 0)), none⟩, ⟨some 5, .mov (.c (.bool false)), none⟩]) (.ret))))))), [.tmp 4, .tmp 5]⟩
/-- spec.liCan -/
def fi130 : FI := ⟨.seq (.reg [⟨some 3, .box (.t 1), none⟩, ⟨some 4, .mov (.c (.bool false)), none⟩]) (.kl [1, 4] (.seq (.seq (.reg [⟨some 7, .faddr 0 1 (.t 3), none⟩, ⟨some 8, .load false 1 (.t 7), none⟩, ⟨some 9, .mov (.t 0), none⟩, ⟨some 10, .lenS (.t 9), none⟩, ⟨some 11, .bin .sub (.t 10) (.c (.int .i64 1)), none⟩, ⟨some 12, .call 77 [.t 8, .c (.int .i64 0), .t 11], none⟩, ⟨some 13, .un .not (.t 12), none⟩, ⟨some 14, .mov (.t 13), none⟩, ⟨some 15, .faddr 1 1 (.t 3), some (14, false)⟩, ⟨some 16, .load false 1 (.t 15), some (14, false)⟩, ⟨some 17, .mov (.t 0), some (14, false)⟩, ⟨some 18, .lenS (.t 17), some (14, false)⟩, ⟨some 19, .bin .sub (.t 18) (.c (.int .i64 1)), some (14, false)⟩, ⟨some 20, .call 77 [.t 16, .c (.int .i64 0), .t 19], some (14, false)⟩, ⟨some 21, .un .not (.t 20), some (14, false)⟩, ⟨some 22, .pick (.t 14) (.c (.bool true)) (.t 21), none⟩, ⟨some 23, .mov (.t 22), none⟩, ⟨some 24, .mov (.t 0), some (23, false)⟩, ⟨some 25, .faddr 1 1 (.t 3), some (23, false)⟩, ⟨some 26, .load false 1 (.t 25), some (23, false)⟩, ⟨some 27, .idxS (.t 24) (.t 26), some (23, false)⟩, ⟨some 28, .bin .neq (.t 27) (.c (.int .u8 46)), some (23, false)⟩, ⟨some 29, .pick (.t 23) (.c (.bool true)) (.t 28), none⟩]) (.kl [7, 8, 9, 10, 11, 12, 13, 14, 15, 16, 17, 18, 19, 20, 21, 22, 23, 24, 25, 26, 27, 28] (.cond (.t 29) (.kl [0, 3, 29] (.seq (.reg [⟨some 4, .mov (.c (.bool false)), none⟩]) (.ret))) (.skip)))) (.kl [29] (.seq (.reg [⟨some 5, .mov (.c (.int .i64 1)), none⟩, ⟨some 6, .mov (.c (.int .u8 70)), none⟩]) (.seq (.seq (.reg [⟨some 30, .mov (.t 0), none⟩, ⟨some 31, .faddr 0 1 (.t 3), none⟩, ⟨some 32, .load false 1 (.t 31), none⟩, ⟨some 33, .idxS (.t 30) (.t 32), none⟩]) (.kl [30, 31, 32] (.blk 0 (.seq (.reg [⟨some 35, .bin .eql (.t 33) (.c (.int .u8 84)), none⟩, ⟨some 34, .mov (.t 35), none⟩]) (.kl [35] (.cond (.t 34) (.skip) (.kl [5, 6, 34] (.seq (.reg [⟨some 37, .bin .eql (.t 33) (.c (.int .u8 70)), none⟩, ⟨some 36, .mov (.t 37), none⟩]) (.kl [33, 37] (.cond (.t 36) (.kl [36] (.seq (.reg [⟨some 5, .mov (.c (.int .i64 (-1))), none⟩]) (.reg [⟨some 6, .mov (.c (.int .u8 84)), none⟩]))) (.kl [0, 3, 36] (.seq (.reg [⟨some 4, .mov (.c (.bool false)), none⟩]) (.ret))))))))))))) (.kl [33, 34] (.seq (.reg [⟨some 38, .faddr 1 1 (.t 3), none⟩, ⟨some 39, .load false 1 (.t 38), none⟩, ⟨some 40, .faddr 0 1 (.t 3), none⟩, ⟨some 41, .load false 1 (.t 40), none⟩, ⟨some 42, .mov (.t 5), none⟩, ⟨some 43, .bin .add (.t 41) (.t 42), none⟩, ⟨some 44, .bin .eql (.t 39) (.t 43), none⟩, ⟨some 45, .mov (.t 44), none⟩, ⟨some 46, .faddr 1 1 (.t 3), some (45, false)⟩, ⟨some 47, .load false 1 (.t 46), some (45, false)⟩, ⟨some 48, .faddr 0 1 (.t 3), some (45, false)⟩, ⟨some 49, .load false 1 (.t 48), some (45, false)⟩, ⟨some 50, .mov (.t 5), some (45, false)⟩, ⟨some 51, .bin .mul (.c (.int .i64 2)) (.t 50), some (45, false)⟩, ⟨some 52, .bin .add (.t 49) (.t 51), some (45, false)⟩, ⟨some 53, .bin .eql (.t 47) (.t 52), some (45, false)⟩, ⟨some 54, .mov (.t 53), some (45, false)⟩, ⟨some 55, .mov (.t 0), some (54, true)⟩, ⟨some 56, .faddr 0 1 (.t 3), some (54, true)⟩, ⟨some 57, .load false 1 (.t 56), some (54, true)⟩, ⟨some 58, .mov (.t 5), some (54, true)⟩, ⟨some 59, .bin .add (.t 57) (.t 58), some (54, true)⟩, ⟨some 60, .idxS (.t 55) (.t 59), some (54, true)⟩, ⟨some 61, .mov (.t 6), some (54, true)⟩, ⟨some 62, .bin .eql (.t 60) (.t 61), some (54, true)⟩, ⟨some 63, .pick (.t 54) (.t 62) (.c (.bool false)), some (45, false)⟩, ⟨some 64, .pick (.t 45) (.c (.bool true)) (.t 63), none⟩, ⟨some 4, .mov (.t 64), none⟩]) (.kl [0, 3, 5, 6, 38, 39, 40, 41, 42, 43, 44, 45, 46, 47, 48, 49, 50, 51, 52, 53, 54, 55, 56, 57, 58, 59, 60, 61, 62, 63, 64] (.ret))))))))), [.tmp 4]⟩
/-- spec.liPut -/
def fi108 : FI := ⟨.seq (.reg [⟨some 6, .mov (.c (.str [])), none⟩]) (.kl [6] (.seq (.drw [⟨some 7, .mov (.t 0), none⟩, ⟨some 8, .mov (.t 1), none⟩, ⟨some 9, .subS (.t 7) none (some (.t 8)), none⟩, ⟨some 10, .mov (.t 2), none⟩, ⟨some 11, .bin .add (.t 9) (.t 10), none⟩, ⟨some 12, .mov (.t 0), none⟩, ⟨some 13, .mov (.t 1), none⟩, ⟨some 14, .bin .add (.t 13) (.c (.int .i64 1)), none⟩, ⟨some 15, .subS (.t 12) (some (.t 14)) none, none⟩, ⟨some 16, .bin .add (.t 11) (.t 15), none⟩, ⟨some 6, .mov (.t 16), none⟩] []) (.kl [0, 1, 2, 7, 8, 9, 10, 11, 12, 13, 14, 15, 16] (.ret)))), [.tmp 6]⟩
/-- impl.other -/
def fi109 : FI := ⟨.seq (.reg [⟨some 2, .mov (.c (.int .u8 0)), none⟩]) (.kl [2] (.seq (.seq (.reg [⟨some 3, .mov (.t 0), none⟩]) (.blk 0 (.seq (.reg [⟨some 5, .bin .eql (.t 3) (.c (.int .u8 84)), none⟩, ⟨some 4, .mov (.t 5), none⟩]) (.kl [5] (.cond (.t 4) (.kl [0, 3, 4] (.seq (.reg [⟨some 2, .mov (.c (.int .u8 70)), none⟩]) (.ret))) (.kl [4] (.seq (.reg [⟨some 7, .bin .eql (.t 3) (.c (.int .u8 70)), none⟩, ⟨some 6, .mov (.t 7), none⟩]) (.kl [3, 7] (.cond (.t 6) (.kl [0, 6] (.seq (.reg [⟨some 2, .mov (.c (.int .u8 84)), none⟩]) (.ret))) (.skip)))))))))) (.kl [6] (.seq (.reg [⟨some 8, .mov (.t 0), none⟩, ⟨some 2, .mov (.t 8), none⟩]) (.kl [0, 8] (.ret)))))), [.tmp 2]⟩
/-- impl.stepOf -/
def fi103 : FI := ⟨.seq (.reg [⟨some 2, .mov (.c (.int .i64 0)), none⟩]) (.kl [2] (.seq (.seq (.reg [⟨some 3, .mov (.t 0), none⟩]) (.kl [0] (.blk 0 (.seq (.reg [⟨some 5, .bin .eql (.t 3) (.c (.int .u8 84)), none⟩, ⟨some 4, .mov (.t 5), none⟩]) (.kl [5] (.cond (.t 4) (.kl [3, 4] (.seq (.reg [⟨some 2, .mov (.c (.int .i64 1)), none⟩]) (.ret))) (.kl [4] (.seq (.reg [⟨some 7, .bin .eql (.t 3) (.c (.int .u8 70)), none⟩, ⟨some 6, .mov (.t 7), none⟩]) (.kl [3, 7] (.cond (.t 6) (.kl [6] (.seq (.reg [⟨some 2, .mov (.c (.int .i64 (-1))), none⟩]) (.ret))) (.skip))))))))))) (.kl [6] (.seq (.reg [⟨some 2, .mov (.c (.int .i64 0)), none⟩]) (.ret))))), [.tmp 2]⟩
/-- impl.at -/
def fi125 : FI := ⟨.seq (.reg [⟨some 4, .mov (.c (.int .u8 0)), none⟩]) (.kl [4] (.seq (.seq (.reg [⟨some 5, .mov (.t 1), none⟩, ⟨some 6, .bin .lss (.t 5) (.c (.int .i64 0)), none⟩, ⟨some 7, .mov (.t 6), none⟩, ⟨some 8, .mov (.t 1), some (7, false)⟩, ⟨some 9, .mov (.t 0), some (7, false)⟩, ⟨some 10, .lenS (.t 9), some (7, false)⟩, ⟨some 11, .bin .geq (.t 8) (.t 10), some (7, false)⟩, ⟨some 12, .pick (.t 7) (.c (.bool true)) (.t 11), none⟩]) (.kl [5, 6, 7, 8, 9, 10, 11] (.cond (.t 12) (.kl [0, 1, 12] (.seq (.reg [⟨some 4, .mov (.c (.int .u8 0)), none⟩]) (.ret))) (.skip)))) (.kl [12] (.seq (.reg [⟨some 13, .mov (.t 0), none⟩, ⟨some 14, .mov (.t 1), none⟩, ⟨some 15, .idxS (.t 13) (.t 14), none⟩, ⟨some 4, .mov (.t 15), none⟩]) (.kl [0, 1, 13, 14, 15] (.ret)))))), [.tmp 4]⟩

def tab : List (Nat × FI) := [(395, fi395), (22, fi22), (396, fi396), (397, fi397), (398, fi398), (399, fi399), (400, fi400), (401, fi401), (402, fi402), (27, fi27), (403, fi403), (379, fi379), (404, fi404), (405, fi405), (406, fi406), (407, fi407), (408, fi408), (409, fi409), (410, fi410), (411, fi411), (412, fi412), (413, fi413), (381, fi381), (389, fi389), (388, fi388), (434, fi434), (106, fi106), (189, fi189), (439, fi439), (104, fi104), (116, fi116), (440, fi440), (237, fi237), (251, fi251), (92, fi92), (91, fi91), (74, fi74), (305, fi305), (441, fi441), (442, fi442), (63, fi63), (77, fi77), (253, fi253), (100, fi100), (101, fi101), (443, fi443), (68, fi68), (435, fi435), (444, fi444), (445, fi445), (191, fi191), (61, fi61), (66, fi66), (64, fi64), (82, fi82), (246, fi246), (124, fi124), (62, fi62), (114, fi114), (107, fi107), (71, fi71), (99, fi99), (119, fi119), (127, fi127), (130, fi130), (108, fi108), (109, fi109), (103, fi103), (125, fi125)]
def T (f : Nat) : Option FI := (tab.find? fun x => x.1 == f).map (·.2)
theorem T395 : T 395 = some fi395 := rfl
theorem T22 : T 22 = some fi22 := rfl
theorem T396 : T 396 = some fi396 := rfl
theorem T397 : T 397 = some fi397 := rfl
theorem T398 : T 398 = some fi398 := rfl
theorem T399 : T 399 = some fi399 := rfl
theorem T400 : T 400 = some fi400 := rfl
theorem T401 : T 401 = some fi401 := rfl
theorem T402 : T 402 = some fi402 := rfl
theorem T27 : T 27 = some fi27 := rfl
theorem T403 : T 403 = some fi403 := rfl
theorem T379 : T 379 = some fi379 := rfl
theorem T404 : T 404 = some fi404 := rfl
theorem T405 : T 405 = some fi405 := rfl
theorem T406 : T 406 = some fi406 := rfl
theorem T407 : T 407 = some fi407 := rfl
theorem T408 : T 408 = some fi408 := rfl
theorem T409 : T 409 = some fi409 := rfl
theorem T410 : T 410 = some fi410 := rfl
theorem T411 : T 411 = some fi411 := rfl
theorem T412 : T 412 = some fi412 := rfl
theorem T413 : T 413 = some fi413 := rfl
theorem T381 : T 381 = some fi381 := rfl
theorem T389 : T 389 = some fi389 := rfl
theorem T388 : T 388 = some fi388 := rfl
theorem T434 : T 434 = some fi434 := rfl
theorem T106 : T 106 = some fi106 := rfl
theorem T189 : T 189 = some fi189 := rfl
theorem T439 : T 439 = some fi439 := rfl
theorem T104 : T 104 = some fi104 := rfl
theorem T116 : T 116 = some fi116 := rfl
theorem T440 : T 440 = some fi440 := rfl
theorem T237 : T 237 = some fi237 := rfl
theorem T251 : T 251 = some fi251 := rfl
theorem T92 : T 92 = some fi92 := rfl
theorem T91 : T 91 = some fi91 := rfl
theorem T74 : T 74 = some fi74 := rfl
theorem T305 : T 305 = some fi305 := rfl
theorem T441 : T 441 = some fi441 := rfl
theorem T442 : T 442 = some fi442 := rfl
theorem T63 : T 63 = some fi63 := rfl
theorem T77 : T 77 = some fi77 := rfl
theorem T253 : T 253 = some fi253 := rfl
theorem T100 : T 100 = some fi100 := rfl
theorem T101 : T 101 = some fi101 := rfl
theorem T443 : T 443 = some fi443 := rfl
theorem T68 : T 68 = some fi68 := rfl
theorem T435 : T 435 = some fi435 := rfl
theorem T444 : T 444 = some fi444 := rfl
theorem T445 : T 445 = some fi445 := rfl
theorem T191 : T 191 = some fi191 := rfl
theorem T61 : T 61 = some fi61 := rfl
theorem T66 : T 66 = some fi66 := rfl
theorem T64 : T 64 = some fi64 := rfl
theorem T82 : T 82 = some fi82 := rfl
theorem T246 : T 246 = some fi246 := rfl
theorem T124 : T 124 = some fi124 := rfl
theorem T62 : T 62 = some fi62 := rfl
theorem T114 : T 114 = some fi114 := rfl
theorem T107 : T 107 = some fi107 := rfl
theorem T71 : T 71 = some fi71 := rfl
theorem T99 : T 99 = some fi99 := rfl
theorem T119 : T 119 = some fi119 := rfl
theorem T127 : T 127 = some fi127 := rfl
theorem T130 : T 130 = some fi130 := rfl
theorem T108 : T 108 = some fi108 := rfl
theorem T109 : T 109 = some fi109 := rfl
theorem T103 : T 103 = some fi103 := rfl
theorem T125 : T 125 = some fi125 := rfl
end Go.Proofs.YtejhhdpfndiliaaGreatDoor.Ab
-- EXT strings.IndexByte
-- EXT strings.Count
-- EXT strings.Trim
-- EXT strings.Repeat
-- XF main.main|0|
-- XF gosem.cut|1|
-- XF impl.CountOf|10|
-- XF impl.ordered|100|
-- XF spec.liTimes|101|
-- XF (*spec.l1Cur).among|102|
-- XF spec.l1All|103|
-- XF (*spec.l1Cur).next|104|
-- XF (*spec.l1Cur).of|105|
-- XF (*spec.l1Cur).sureLine|106|
-- XF spec.liMoves|107|
-- XF impl.goal|108|
-- XF spec.liCan|109|
-- XF spec.CountOf|11|
-- XF impl.sumOf|110|
-- XF (impl.games).win|111|
-- XF spec.gaKey|112|
-- XF spec.gaWith|113|
-- XF impl.moves|115|
-- XF impl.kindOf|116|
-- XF (impl.games).best$1|117|
-- XF spec.liPut|118|
-- XF impl.gamesFrom$1|119|
-- XF impl.LastLine|12|
-- XF spec.l1Most|120|
-- XF (impl.games).outcome|121|
-- XF slices.Reverse[[]byte,byte]|122|22, 5
-- XF impl.other|123|
-- XF strings.Trim|124|
-- XF unicode/utf8.RuneCountInString|125|
-- XF internal/bytealg.CountString|126|
-- XF strings.Index|127|
-- XF internal/bytealg.IndexByteString|128|
-- XF strings.Repeat|129|
-- XF spec.LastLine|13|
-- XF impl.stepOf|130|
-- XF impl.at|131|
-- XF strings.Join|132|
-- XF (impl.games).win$1|134|
-- XF spec.l1OwnS|135|
-- XF strings.Contains|137|
-- XF strings.trimLeftByte|138|
-- XF strings.trimRightByte|139|
-- XF impl.CountLines|14|
-- XF strings.makeASCIISet|140|
-- XF strings.trimLeftASCII|141|
-- XF strings.trimRightASCII|142|
-- XF strings.trimLeftUnicode|143|
-- XF strings.trimRightUnicode|144|
-- XF internal/stringslite.Index|145|
-- XF math/bits.Mul|146|
-- XF strings.HasPrefix|147|
-- XF (*strings.Builder).Grow|148|
-- XF (*strings.Builder).WriteString|149|
-- XF impl.LineOfRank|15|
-- XF (*strings.Builder).Len|150|
-- XF (*strings.Builder).String|151|
-- XF (*strings.asciiSet).contains|152|
-- XF unicode/utf8.DecodeRuneInString|153|
-- XF strings.ContainsRune|154|
-- XF unicode/utf8.DecodeLastRuneInString|155|
-- XF internal/bytealg.IndexString|156|
-- XF internal/bytealg.Cutover|157|
-- XF internal/bytealg.IndexRabinKarp[string]|158|9
-- XF math/bits.Mul32|159|
-- XF impl.WayToGo|16|
-- XF math/bits.Mul64|160|
-- XF internal/stringslite.HasPrefix|161|
-- XF (*strings.Builder).copyCheck|162|
-- XF (*strings.Builder).grow|163|
-- XF unicode/utf8.decodeRuneInStringSlow|164|
-- XF strings.IndexRune|165|
-- XF unicode/utf8.RuneStart|166|
-- XF internal/bytealg.hashStr[string]|167|9
-- XF internal/abi.NoEscape|168|
-- XF internal/bytealg.MakeNoZero|169|
-- XF spec.DrawLineOfRank|17|
-- XF unicode/utf8.ValidRune|170|
-- XF (runtime.boundsError).Error|171|
-- XF (runtime.boundsError).RuntimeError|172|
-- XF (runtime.errorString).Error|173|
-- XF (runtime.errorString).RuntimeError|174|
-- XF (runtime.plainError).Error|175|
-- XF (runtime.plainError).RuntimeError|176|
-- XF (runtime.errorAddressString).Error|177|
-- XF (runtime.errorAddressString).RuntimeError|178|
-- XF (*runtime.TypeAssertionError).Error|179|
-- XF spec.LineOfRank|18|
-- XF (*runtime.TypeAssertionError).RuntimeError|180|
-- XF (*runtime.PanicNilError).Error|181|
-- XF (*runtime.PanicNilError).RuntimeError|182|
-- XF (*internal/abi.Type).Align|183|
-- XF (internal/runtime/maps.unhashableTypeError).Error|184|
-- XF (internal/runtime/maps.unhashableTypeError).RuntimeError|185|
-- XF (impl.Move).isJump|186|
-- XF (*spec.l1Cur).board|187|
-- XF (*strings.Builder).Reset|188|
-- XF (internal/abi.Kind).String|189|
-- XF impl.FirstLine|19|
-- XF var's door: unicode/utf8.acceptRanges is laid by its own initialiser, plain data (look 11)|192|
-- XF var's door: unicode/utf8.first is laid by its text alone (pinned 1)|193|
-- XF gosem.cut.vars|194|
-- XF gosem.cut.init|2|
-- XF spec.FirstLine|20|
-- XF spec.CountLines|21|
-- XF spec.DrawPlayMoves|22|
-- XF impl.PlayMoves|23|
-- XF spec.PlayMoves|24|
-- XF impl.MoveThatFails|25|
-- XF spec.MoveThatFails|26|
-- XF impl.PairsToPass|27|
-- XF impl.MakeMove|28|
-- XF impl.CanMove|29|
-- XF laws.FnLinesRanked|3|
-- XF impl.WinsMoving|30|
-- XF spec.WinsMoving|31|
-- XF impl.BestMoves|32|
-- XF spec.BestMoves|33|
-- XF impl.GameMove|34|
-- XF spec.GameMove|35|
-- XF impl.GamePlay|36|
-- XF spec.GamePlay|37|
-- XF impl.LongestGame|38|
-- XF spec.LongestGame|39|
-- XF laws.FnGamesWonOfAll|4|
-- XF impl.ShortestGame|40|
-- XF spec.ShortestGame|41|
-- XF impl.CountGames|42|
-- XF spec.CountGames|43|
-- XF laws.nMoves|44|
-- XF impl.OutcomeOf|45|
-- XF impl.IsNothing|46|
-- XF impl.ToadMoves|47|
-- XF impl.FrogMoves|48|
-- XF laws.nMove|49|
-- XF laws.FnGamesWon|5|
-- XF impl.OtherLine|50|
-- XF spec.DrawWinsMoving|51|
-- XF spec.DrawIsLine|52|
-- XF impl.IsLine|53|
-- XF impl.count|54|
-- XF strings.IndexByte|55|
-- XF impl.below|56|
-- XF spec.liGood|57|
-- XF spec.liCount|58|
-- XF spec.liMany|59|
-- XF laws.big|6|
-- XF impl.last|60|
-- XF spec.liLast|61|
-- XF impl.areCounts|62|
-- XF impl.lines|63|
-- XF impl.within|64|
-- XF impl.way|65|
-- XF (*spec.l1Cur).three|66|
-- XF spec.liThree|67|
-- XF (*spec.l1Cur).pick|68|
-- XF spec.l1In|69|
-- XF spec.DrawRankOfLine|7|
-- XF impl.first|70|
-- XF spec.liFirst|71|
-- XF (*spec.l1Cur).line|72|
-- XF (*spec.l1Cur).moves|73|
-- XF impl.played|74|
-- XF impl.can|75|
-- XF spec.liAsked|76|
-- XF spec.liPlay|77|
-- XF impl.pairs|78|
-- XF impl.made|79|
-- XF impl.RankOfLine|8|
-- XF impl.WinsSum|80|
-- XF spec.gaFew|81|
-- XF (*spec.gaKnown).win|82|
-- XF impl.isPlayed|83|
-- XF impl.newGames|84|
-- XF (impl.games).best|85|
-- XF spec.gaBest|86|
-- XF (impl.games).move|87|
-- XF spec.gaMove|88|
-- XF spec.liMake|89|
-- XF spec.RankOfLine|9|
-- XF impl.gamesFrom|90|
-- XF (*spec.gaLengths).of|91|
-- XF impl.OutcomeOfSum|92|
-- XF impl.movesIn|93|
-- XF impl.turned|94|
-- XF (*spec.l1Cur).played|95|
-- XF (*spec.l1Cur).one|96|
-- XF impl.isLineOf|97|
-- XF strings.Count|98|
-- XF internal/stringslite.IndexByte|99|

/- RULES for reckoning with the evaluator: fuel is bounded by no one. -/
namespace Go.Proofs.YtejhhdpfndiliaaGreatDoor.Ab
open Go

def CF.le (a b : CF) : Prop := ∀ f xs h r, a f xs h = some r → b f xs h = some r
theorem CF.le_refl (a : CF) : a.le a := fun _ _ _ _ h => h

def AOp.isCall : AOp → Bool
  | .call .. | .callv .. => true
  | _ => false

section
variable {cf cf' : CF} {ρ : Opd → AV} {h : AH} {e : Env}

theorem evOp_mono (hle : cf.le cf') {i : AOp} {x : AV × AH} (hev : evOp cf ρ h i = some x) : evOp cf' ρ h i = some x := by
  cases i <;> first
    | exact hev
    | (simp only [evOp] at hev ⊢; exact hle _ _ _ _ hev)
    | (simp only [evOp] at hev ⊢
       split at hev
       · exact hle _ _ _ _ hev
       · cases hev)
theorem evOp_any {i : AOp} (hi : i.isCall = false) (cf cf' : CF) : evOp cf ρ h i = evOp cf' ρ h i := by
  cases i <;> first
    | rfl
    | (simp [AOp.isCall] at hi; done)

theorem evI_mono (hle : cf.le cf') {i : I} {x : Env × AH} (hev : evI cf i e h = some x) : evI cf' i e h = some x := by
  have key : ∀ x, (evOp cf (env e) h i.op).map (fun (v, h') => (put e i.dst v, h')) = some x → (evOp cf' (env e) h i.op).map (fun (v, h') => (put e i.dst v, h')) = some x := by
    intro x hx
    simp only [Option.map_eq_some_iff] at hx ⊢
    obtain ⟨y, hy, he⟩ := hx
    exact ⟨y, evOp_mono hle hy, he⟩
  unfold evI at hev ⊢
  split at hev
  · exact key _ hev
  · split at hev
    · split at hev
      · rename_i h1; rw [if_pos h1]; exact key _ hev
      · rename_i h1; rw [if_neg h1]; exact hev
    · exact hev
    · cases hev

theorem evR_mono (hle : cf.le cf') : ∀ {is : List I} {e : Env} {h : AH} {x : Env × AH}, evR cf is e h = some x → evR cf' is e h = some x
  | [], _, _, _, hev => hev
  | i :: is, e, h, x, hev => by
    simp only [evR] at hev ⊢
    split at hev
    · rename_i e1 h1 h2
      rw [evI_mono hle h2]
      exact evR_mono hle hev
    · cases hev

theorem state_some : ∀ {is : List I} {e : Env} {h : AH} {x : Env × AH}, evR cf is e h = some x → ∀ i, ∃ s, stateAt cf is i e h = some s
  | [], e, h, x, hev, i => ⟨(e, h), by simp [stateAt, evR]⟩
  | j :: is, e, h, x, hev, i => by
    cases i with
    | zero => exact ⟨(e, h), by simp [stateAt, evR]⟩
    | succ i =>
      simp only [evR] at hev
      split at hev
      · rename_i e1 h1 h2
        obtain ⟨s, hs⟩ := state_some hev i
        refine ⟨s, ?_⟩
        simp only [stateAt, List.take_succ_cons, evR, h2]
        exact hs
      · cases hev

theorem evDraw_mono (hle : cf.le cf') {is : List I} {ps : List (Nat × Nat)} {x : Env × AH} (hev : evDraw cf is ps e h = some x) : evDraw cf' is ps e h = some x := by
  unfold evDraw at hev ⊢
  split at hev
  · rename_i hst
    rw [if_pos]
    · exact evR_mono hle hev
    · intro p hp
      rcases hst p hp with hpe | hst
      · exact .inl hpe
      refine .inr ?_
      intro o e1 h1 e2 h2 e3 h3 k0 k1 k2 k3
      obtain ⟨s1, g1⟩ := state_some hev p.1
      obtain ⟨s2, g2⟩ := state_some hev p.2
      obtain ⟨s3, g3⟩ := state_some hev (p.2 + 1)
      have m1 := evR_mono hle g1
      have m2 := evR_mono hle g2
      have m3 := evR_mono hle g3
      unfold stateAt at k1 k2 k3
      rw [m1] at k1; rw [m2] at k2; rw [m3] at k3
      cases k1; cases k2; cases k3
      exact hst o e1 h1 e2 h2 e3 h3 k0 g1 g2 g3
  · cases hev

theorem evLoop_mono {s s' : Env → AH → Option (X × Env × AH)} (hs : ∀ e h x, s e h = some x → s' e h = some x) : ∀ {n n' : Nat}, n ≤ n' → ∀ {e : Env} {h : AH} {x}, evLoop s n e h = some x → evLoop s' n' e h = some x
  | 0, _, _, _, _, _, hev => by simp [evLoop] at hev
  | n + 1, 0, hn, _, _, _, _ => by omega
  | n + 1, n' + 1, hn, e, h, x, hev => by
    simp only [evLoop] at hev ⊢
    cases hst : s e h with
    | none => rw [hst] at hev; simp at hev
    | some y =>
      rw [hst] at hev
      rw [hs _ _ _ hst]
      obtain ⟨x1, e1, h1⟩ := y
      cases x1 with
      | normal => exact evLoop_mono hs (by omega) hev
      | exit i => exact hev
      | ret => exact hev

theorem evC_mono (hle : cf.le cf') {n n' : Nat} (hn : n ≤ n') : ∀ (c : C) {e : Env} {h : AH} {x}, evC cf n c e h = some x → evC cf' n' c e h = some x := by
  intro c
  induction c with
  | skip => intro e h x hev; exact hev
  | reg is =>
    intro e h x hev
    simp only [evC, Option.map_eq_some_iff] at hev ⊢
    obtain ⟨y, hy, he⟩ := hev
    exact ⟨y, evR_mono hle hy, he⟩
  | drw is ps =>
    intro e h x hev
    simp only [evC, Option.map_eq_some_iff] at hev ⊢
    obtain ⟨y, hy, he⟩ := hev
    exact ⟨y, evDraw_mono hle hy, he⟩
  | kl ts c ih => intro e h x hev; simp only [evC] at hev ⊢; exact ih hev
  | seq a b iha ihb =>
    intro e h x hev
    simp only [evC] at hev ⊢
    cases ha : evC cf n a e h with
    | none => rw [ha] at hev; simp at hev
    | some y =>
      rw [ha] at hev
      rw [iha ha]
      obtain ⟨x1, e1, h1⟩ := y
      cases x1 with
      | normal => exact ihb hev
      | exit i => exact hev
      | ret => exact hev
  | cond y a b iha ihb =>
    intro e h x hev
    simp only [evC] at hev ⊢
    split at hev
    · rename_i t ht
      split at hev
      · rename_i h1; rw [if_pos h1]; exact iha hev
      · rename_i h1; rw [if_neg h1]; exact ihb hev
    · cases hev
  | blk id a ih =>
    intro e h x hev
    simp only [evC] at hev ⊢
    cases ha : evC cf n a e h with
    | none => rw [ha] at hev; simp at hev
    | some y =>
      rw [ha] at hev
      rw [ih ha]
      exact hev
  | loop a ih =>
    intro e h x hev
    simp only [evC] at hev ⊢
    exact evLoop_mono (fun _ _ _ hh => ih hh) hn hev
  | exit i => intro e h x hev; exact hev
  | ret => intro e h x hev; exact hev
  | bad => intro e h x hev; simp [evC] at hev
end

def EMono (E : Ext) : Prop := ∀ f G, E f = some G → ∀ cf cf' : CF, cf.le cf' → ∀ xs h r, G cf xs h = some r → G cf' xs h = some r

theorem evF_mono {T : Nat → Option FI} {E : Ext} (hE : EMono E) : ∀ {n n' : Nat}, n ≤ n' → (evF T E n).le (evF T E n')
  | 0, _, _ => by intro f xs h r hev; simp [evF] at hev
  | n + 1, 0, hn => by omega
  | n + 1, n' + 1, hn => by
    intro f xs h r hev
    have ih := evF_mono (T := T) hE (show n ≤ n' by omega)
    simp only [evF] at hev ⊢
    split at hev
    · rename_i G hG
      exact hE f G hG _ _ ih _ _ _ hev
    · split at hev
      · rename_i fi hfi
        cases hc : evC (evF T E n) n fi.body (Env.init 0 xs) h with
        | none => rw [hc] at hev; cases hev
        | some y => rw [hc] at hev; rw [evC_mono ih (by omega) _ hc]; exact hev
      · cases hev

/-! ### The rules -/
section
variable (T : Nat → Option FI) (E : Ext)

def Spec (f : Nat) (xs : List AV) (h : AH) (post : AV → AH → Prop) : Prop := ∃ n r h', evF T E n f xs h = some (r, h') ∧ post r h'
def WC (c : C) (e : Env) (h : AH) (Q : X → Env → AH → Prop) : Prop := ∃ n x e' h', evC (evF T E n) n c e h = some (x, e', h') ∧ Q x e' h'
def WR (is : List I) (e : Env) (h : AH) (Q : Env → AH → Prop) : Prop := ∃ n e' h', evR (evF T E n) is e h = some (e', h') ∧ Q e' h'
def WO {α : Type} (o : Option (α × AH)) (K : α → AH → Prop) : Prop := match o with
  | some (v, h) => K v h
  | none => False
end
@[simp] theorem WO_some {α : Type} {v : α} {h : AH} {K : α → AH → Prop} : WO (some (v, h)) K ↔ K v h := Iff.rfl
@[simp] theorem WO_none {α : Type} {K : α → AH → Prop} : WO none K ↔ False := Iff.rfl
theorem WO_iff {α : Type} {o : Option (α × AH)} {K : α → AH → Prop} : WO o K ↔ ∃ v h, o = some (v, h) ∧ K v h := by
  cases o with
  | none => simp
  | some x =>
    obtain ⟨v, h⟩ := x
    exact ⟨fun hk => ⟨v, h, rfl, hk⟩, fun ⟨_, _, he, hk⟩ => by cases he; exact hk⟩

section
variable {T : Nat → Option FI} {E : Ext} (hE : EMono E) {e : Env} {h : AH} {Q : Env → AH → Prop} {R : X → Env → AH → Prop}
include hE

omit hE in
theorem WR_nil : WR T E [] e h Q ↔ Q e h := by
  constructor
  · rintro ⟨n, e', h', hev, hq⟩
    simp only [evR, Option.some.injEq, Prod.mk.injEq] at hev
    obtain ⟨rfl, rfl⟩ := hev
    exact hq
  · intro hq; exact ⟨0, e, h, rfl, hq⟩

omit hE in
/-- An operation that calls no one. -/
theorem WR_op {d : Option Nat} {op : AOp} {is : List I} (hi : op.isCall = false) : WR T E (⟨d, op, none⟩ :: is) e h Q ↔ WO (evOp noCall (env e) h op) fun v h' => WR T E is (put e d v) h' Q := by
  rw [WO_iff]
  constructor
  · rintro ⟨n, e', h', hev, hq⟩
    simp only [evR, evI] at hev
    rw [evOp_any hi (evF T E n) noCall] at hev
    cases ho : evOp noCall (env e) h op with
    | none => rw [ho] at hev; simp at hev
    | some y =>
      rw [ho] at hev
      obtain ⟨v, h1⟩ := y
      exact ⟨v, h1, rfl, n, e', h', hev, hq⟩
  · rintro ⟨v, h1, ho, n, e', h', hev, hq⟩
    refine ⟨n, e', h', ?_, hq⟩
    simp only [evR, evI]
    rw [evOp_any hi (evF T E n) noCall, ho]
    exact hev

theorem WR_call {d : Option Nat} {f : Nat} {xs : List Opd} {is : List I} : WR T E (⟨d, .call f xs, none⟩ :: is) e h Q ↔ Spec T E f (xs.map (env e)) h fun v h' => WR T E is (put e d v) h' Q := by
  constructor
  · rintro ⟨n, e', h', hev, hq⟩
    simp only [evR, evI, evOp] at hev
    cases ho : evF T E n f (xs.map (env e)) h with
    | none => rw [ho] at hev; simp at hev
    | some y =>
      rw [ho] at hev
      obtain ⟨v, h1⟩ := y
      exact ⟨n, v, h1, ho, n, e', h', hev, hq⟩
  · rintro ⟨n, v, h1, ho, n', e', h', hev, hq⟩
    refine ⟨max n n', e', h', ?_, hq⟩
    simp only [evR, evI, evOp]
    rw [evF_mono hE (Nat.le_max_left n n') _ _ _ _ ho]
    exact evR_mono (evF_mono hE (Nat.le_max_right n n')) hev

theorem WR_callv {d : Option Nat} {x : Opd} {xs : List Opd} {is : List I} {f : Nat} {cap : List AV} (hx : env e x = .fn f cap) : WR T E (⟨d, .callv x xs, none⟩ :: is) e h Q ↔ Spec T E f (xs.map (env e) ++ cap) h fun v h' => WR T E is (put e d v) h' Q := by
  constructor
  · rintro ⟨n, e', h', hev, hq⟩
    simp only [evR, evI, evOp, hx] at hev
    cases ho : evF T E n f (xs.map (env e) ++ cap) h with
    | none => rw [ho] at hev; simp at hev
    | some y =>
      rw [ho] at hev
      obtain ⟨v, h1⟩ := y
      exact ⟨n, v, h1, ho, n, e', h', hev, hq⟩
  · rintro ⟨n, v, h1, ho, n', e', h', hev, hq⟩
    refine ⟨max n n', e', h', ?_, hq⟩
    simp only [evR, evI, evOp, hx]
    rw [evF_mono hE (Nat.le_max_left n n') _ _ _ _ ho]
    exact evR_mono (evF_mono hE (Nat.le_max_right n n')) hev

omit hE in
/-- A guard that is heard, one that is not. -/
theorem WR_grd {d : Option Nat} {op : AOp} {is : List I} {t : Nat} {want b : Bool} (hb : e.get t = .bool b) : WR T E (⟨d, op, some (t, want)⟩ :: is) e h Q ↔ if b = want then WR T E (⟨d, op, none⟩ :: is) e h Q else WR T E is (put e d (.tup [])) h Q := by
  have key : ∀ n, evR (evF T E n) (⟨d, op, some (t, want)⟩ :: is) e h = if b = want then evR (evF T E n) (⟨d, op, none⟩ :: is) e h else evR (evF T E n) is (put e d (.tup [])) h := by
    intro n
    simp only [evR, evI, hb]
    by_cases hbw : b = want <;> simp [hbw]
  unfold WR
  simp only [key]
  by_cases hbw : b = want <;> simp [hbw]

omit hE in
/-- A guard on what was not done. -/
theorem WR_grd0 {d : Option Nat} {op : AOp} {is : List I} {t : Nat} {want : Bool} (hb : e.get t = .tup []) : WR T E (⟨d, op, some (t, want)⟩ :: is) e h Q ↔ WR T E is (put e d (.tup [])) h Q := by
  have key : ∀ n, evR (evF T E n) (⟨d, op, some (t, want)⟩ :: is) e h = evR (evF T E n) is (put e d (.tup [])) h := by
    intro n
    simp only [evR, evI, hb]
  unfold WR
  simp only [key]

omit hE in
theorem WC_reg {is : List I} : WC T E (.reg is) e h R ↔ WR T E is e h (R .normal) := by
  constructor
  · rintro ⟨n, x, e', h', hev, hq⟩
    simp only [evC, Option.map_eq_some_iff, Prod.mk.injEq] at hev
    obtain ⟨⟨e1, h1⟩, hev, rfl, rfl, rfl⟩ := hev
    exact ⟨n, e1, h1, hev, hq⟩
  · rintro ⟨n, e', h', hev, hq⟩
    exact ⟨n, .normal, e', h', by simp only [evC, hev]; rfl, hq⟩
omit hE in
theorem WC_skip : WC T E .skip e h R ↔ R .normal e h :=
  ⟨by rintro ⟨n, x, e', h', hev, hq⟩; simp only [evC, Option.some.injEq, Prod.mk.injEq] at hev; obtain ⟨rfl, rfl, rfl⟩ := hev; exact hq, fun hq => ⟨0, _, _, _, rfl, hq⟩⟩
omit hE in
theorem WC_ret : WC T E .ret e h R ↔ R .ret e h :=
  ⟨by rintro ⟨n, x, e', h', hev, hq⟩; simp only [evC, Option.some.injEq, Prod.mk.injEq] at hev; obtain ⟨rfl, rfl, rfl⟩ := hev; exact hq, fun hq => ⟨0, _, _, _, rfl, hq⟩⟩
omit hE in
theorem WC_exit {i : Nat} : WC T E (.exit i) e h R ↔ R (.exit i) e h :=
  ⟨by rintro ⟨n, x, e', h', hev, hq⟩; simp only [evC, Option.some.injEq, Prod.mk.injEq] at hev; obtain ⟨rfl, rfl, rfl⟩ := hev; exact hq, fun hq => ⟨0, _, _, _, rfl, hq⟩⟩
omit hE in
theorem WC_kl {ts : List Nat} {c : C} : WC T E (.kl ts c) e h R ↔ WC T E c (e.dels ts) h R := by
  unfold WC; simp only [evC]

/-- Behind a first piece: go on, or out. -/
def then' (K : Env → AH → Prop) (R : X → Env → AH → Prop) : X → Env → AH → Prop
  | .normal, e, h => K e h
  | x, e, h => R x e h
def inBlk (i : Nat) (R : X → Env → AH → Prop) : X → Env → AH → Prop
  | .exit j, e, h => if j = i then R .normal e h else R (.exit j) e h
  | x, e, h => R x e h
omit hE in
@[simp] theorem then_normal {K : Env → AH → Prop} {R : X → Env → AH → Prop} : then' K R .normal e h = K e h := rfl
omit hE in
@[simp] theorem then_exit {K : Env → AH → Prop} {R : X → Env → AH → Prop} {i : Nat} : then' K R (.exit i) e h = R (.exit i) e h := rfl
omit hE in
@[simp] theorem then_ret {K : Env → AH → Prop} {R : X → Env → AH → Prop} : then' K R .ret e h = R .ret e h := rfl
omit hE in
@[simp] theorem inBlk_normal {i : Nat} {R : X → Env → AH → Prop} : inBlk i R .normal e h = R .normal e h := rfl
omit hE in
@[simp] theorem inBlk_ret {i : Nat} {R : X → Env → AH → Prop} : inBlk i R .ret e h = R .ret e h := rfl
omit hE in
@[simp] theorem inBlk_exit {i j : Nat} {R : X → Env → AH → Prop} : inBlk i R (.exit j) e h = if j = i then R .normal e h else R (.exit j) e h := rfl

theorem WC_seq {a b : C} : WC T E (.seq a b) e h R ↔ WC T E a e h (then' (fun e' h' => WC T E b e' h' R) R) := by
  constructor
  · rintro ⟨n, x, e', h', hev, hq⟩
    simp only [evC] at hev
    cases ha : evC (evF T E n) n a e h with
    | none => rw [ha] at hev; simp at hev
    | some y =>
      rw [ha] at hev
      obtain ⟨x1, e1, h1⟩ := y
      refine ⟨n, x1, e1, h1, ha, ?_⟩
      cases x1 with
      | normal => exact ⟨n, x, e', h', hev, hq⟩
      | exit i => cases hev; exact hq
      | ret => cases hev; exact hq
  · rintro ⟨n, x1, e1, h1, ha, hq⟩
    cases x1 with
    | normal =>
      obtain ⟨n', x, e', h', hev, hq⟩ := hq
      refine ⟨max n n', x, e', h', ?_, hq⟩
      simp only [evC]
      rw [evC_mono (evF_mono hE (Nat.le_max_left n n')) (Nat.le_max_left n n') _ ha]
      exact evC_mono (evF_mono hE (Nat.le_max_right n n')) (Nat.le_max_right n n') _ hev
    | exit i => exact ⟨n, _, e1, h1, by simp only [evC, ha], hq⟩
    | ret => exact ⟨n, _, e1, h1, by simp only [evC, ha], hq⟩

omit hE in
theorem WC_cond {x : Opd} {a b : C} {t : Bool} (ht : env e x = .bool t) : WC T E (.cond x a b) e h R ↔ if t then WC T E a e h R else WC T E b e h R := by
  unfold WC
  simp only [evC, ht]
  cases t <;> simp

omit hE in
theorem WC_blk {i : Nat} {c : C} : WC T E (.blk i c) e h R ↔ WC T E c e h (inBlk i R) := by
  constructor
  · rintro ⟨n, x, e', h', hev, hq⟩
    simp only [evC] at hev
    cases ha : evC (evF T E n) n c e h with
    | none => rw [ha] at hev; simp at hev
    | some y =>
      rw [ha] at hev
      obtain ⟨x1, e1, h1⟩ := y
      refine ⟨n, x1, e1, h1, ha, ?_⟩
      cases x1 with
      | normal => cases hev; exact hq
      | exit j =>
        simp only at hev
        simp only [inBlk]
        split at hev
        · rename_i hj; rw [if_pos hj]; cases hev; exact hq
        · rename_i hj; rw [if_neg hj]; cases hev; exact hq
      | ret => cases hev; exact hq
  · rintro ⟨n, x1, e1, h1, ha, hq⟩
    cases x1 with
    | normal => exact ⟨n, _, e1, h1, by simp only [evC, ha], hq⟩
    | exit j =>
      simp only [inBlk] at hq
      by_cases hj : j = i
      · rw [if_pos hj] at hq
        exact ⟨n, _, e1, h1, by simp only [evC, ha, if_pos hj], hq⟩
      · rw [if_neg hj] at hq
        exact ⟨n, _, e1, h1, by simp only [evC, ha, if_neg hj], hq⟩
    | ret => exact ⟨n, _, e1, h1, by simp only [evC, ha], hq⟩

/-- A loop, one round unrolled. -/
theorem WC_loop {c : C} : WC T E (.loop c) e h R ↔ WC T E c e h (then' (fun e' h' => WC T E (.loop c) e' h' R) R) := by
  constructor
  · rintro ⟨n, x, e', h', hev, hq⟩
    simp only [evC] at hev
    cases n with
    | zero => simp [evLoop] at hev
    | succ n =>
      simp only [evLoop] at hev
      cases ha : evC (evF T E (n + 1)) (n + 1) c e h with
      | none => rw [ha] at hev; simp at hev
      | some y =>
        rw [ha] at hev
        obtain ⟨x1, e1, h1⟩ := y
        refine ⟨n + 1, x1, e1, h1, ha, ?_⟩
        cases x1 with
        | normal =>
          refine ⟨n + 1, x, e', h', ?_, hq⟩
          simp only [evC]
          exact evLoop_mono (fun _ _ _ hh => hh) (Nat.le_succ n) hev
        | exit i => cases hev; exact hq
        | ret => cases hev; exact hq
  · rintro ⟨n, x1, e1, h1, ha, hq⟩
    cases x1 with
    | normal =>
      obtain ⟨n', x, e', h', hev, hq⟩ := hq
      simp only [evC] at hev
      refine ⟨max n n' + 1, x, e', h', ?_, hq⟩
      simp only [evC, evLoop]
      rw [evC_mono (evF_mono hE (show n ≤ max n n' + 1 by omega)) (show n ≤ max n n' + 1 by omega) _ ha]
      exact evLoop_mono (fun _ _ _ hh => evC_mono (evF_mono hE (show n' ≤ max n n' + 1 by omega)) (show n' ≤ max n n' + 1 by omega) _ hh) (show n' ≤ max n n' by omega) hev
    | exit i =>
      refine ⟨n + 1, _, e1, h1, ?_, hq⟩
      simp only [evC, evLoop]
      rw [evC_mono (evF_mono hE (Nat.le_succ n)) (Nat.le_succ n) _ ha]
    | ret =>
      refine ⟨n + 1, _, e1, h1, ?_, hq⟩
      simp only [evC, evLoop]
      rw [evC_mono (evF_mono hE (Nat.le_succ n)) (Nat.le_succ n) _ ha]

omit hE in
/-- Into a function of the table. -/
theorem Spec_of {f : Nat} {xs : List AV} {post : AV → AH → Prop} {fi : FI} (hEf : E f = none) (hT : T f = some fi)
    (hw : WC T E fi.body (Env.init 0 xs) h fun x e' h' => (x = .normal ∨ x = .ret) ∧ ∃ r, resV e' h' fi.res = some r ∧ post r h') : Spec T E f xs h post := by
  obtain ⟨n, x, e', h', hev, hx, r, hr, hq⟩ := hw
  refine ⟨n + 1, r, h', ?_, hq⟩
  simp only [evF, hEf, hT, hev]
  rcases hx with rfl | rfl <;> simp [hr]
omit hE in
theorem Spec_ext {f : Nat} {xs : List AV} {post : AV → AH → Prop} {G : CF → List AV → AH → Option (AV × AH)} (hEf : E f = some G) {r : AV} {h' : AH} (n : Nat) (hG : G (evF T E n) xs h = some (r, h')) (hp : post r h') : Spec T E f xs h post :=
  ⟨n + 1, r, h', by simp only [evF, hEf, hG], hp⟩
omit hE in
theorem Spec.mono {f : Nat} {xs : List AV} {post post' : AV → AH → Prop} (hs : Spec T E f xs h post) (hp : ∀ r h', post r h' → post' r h') : Spec T E f xs h post' := by
  obtain ⟨n, r, h', hev, hq⟩ := hs
  exact ⟨n, r, h', hev, hp _ _ hq⟩
omit hE in
theorem WC.mono {c : C} {R' : X → Env → AH → Prop} (hs : WC T E c e h R) (hp : ∀ x e' h', R x e' h' → R' x e' h') : WC T E c e h R' := by
  obtain ⟨n, x, e', h', hev, hq⟩ := hs
  exact ⟨n, x, e', h', hev, hp _ _ _ hq⟩
end
end Go.Proofs.YtejhhdpfndiliaaGreatDoor.Ab

/- DEMONIC RUNS: pieces of code of the machine, and steps of an iterator over a map, whose order is not known. -/
namespace Go.Proofs.YtejhhdpfndiliaaGreatDoor.Ab
open Go

inductive D where
  | c (c : C)
  | nxt (it dst ok : Nat)
  | kl (ts : List Nat) (d : D)
  | seq (a b : D)
  | blk (id : Nat) (d : D)
  | loop (d : D)

abbrev RP := X → Env → AH → Prop
abbrev WCt := C → Env → AH → RP → Prop
def dRounds (W : Env → AH → RP → Prop) (R : RP) : Nat → Env → AH → Prop
  | 0, _, _ => False
  | k + 1, e, h => W e h (then' (fun e' h' => dRounds W R k e' h') R)
def dW (Wc : WCt) : D → Env → AH → RP → Prop
  | .c c, e, h, R => Wc c e h R
  | .nxt it dst ok, e, h, R => ∃ c cm seen es, e.get it = .iter c ∧ h[c]? = some (.mit cm es.length seen) ∧ h[cm]? = some (.map es) ∧
      (∀ (i : Nat) k v, es[i]? = some (k, v) → i ∉ seen → R .normal ((e.set dst (.tup [.bool true, k, v])).set ok (.bool true)) (h.set c (.mit cm es.length (seen ++ [i])))) ∧
      ((∀ i, i < es.length → i ∈ seen) → R .normal ((e.set dst (.tup [.bool false])).set ok (.bool false)) h)
  | .kl ts d, e, h, R => dW Wc d (e.dels ts) h R
  | .seq a b, e, h, R => dW Wc a e h (then' (fun e' h' => dW Wc b e' h' R) R)
  | .blk id d, e, h, R => dW Wc d e h (inBlk id R)
  | .loop d, e, h, R => ∃ n, dRounds (dW Wc d) R n e h

def WMono (Wc : WCt) : Prop := ∀ c e h (R R' : RP), (∀ x e' h', R x e' h' → R' x e' h') → Wc c e h R → Wc c e h R'
theorem then_mono {K K' : Env → AH → Prop} {R R' : RP} (hk : ∀ e h, K e h → K' e h) (hr : ∀ x e h, R x e h → R' x e h) : ∀ x e h, then' K R x e h → then' K' R' x e h := by
  intro x e h
  cases x <;> simp only [then'] <;> first | exact hk _ _ | exact hr _ _ _
theorem inBlk_mono {id : Nat} {R R' : RP} (hr : ∀ x e h, R x e h → R' x e h) : ∀ x e h, inBlk id R x e h → inBlk id R' x e h := by
  intro x e h
  cases x <;> simp only [inBlk] <;> first
    | exact hr _ _ _
    | (split <;> exact hr _ _ _)
theorem dW_mono {Wc : WCt} (hW : WMono Wc) : ∀ (d : D) (e : Env) (h : AH) (R R' : RP), (∀ x e' h', R x e' h' → R' x e' h') → dW Wc d e h R → dW Wc d e h R'
  | .c c, e, h, R, R', hr, hw => hW c e h R R' hr hw
  | .nxt it dst ok, e, h, R, R', hr, ⟨c, cm, seen, es, h1, h2, h3, h4, h5⟩ => ⟨c, cm, seen, es, h1, h2, h3, fun i k v a b => hr _ _ _ (h4 i k v a b), fun a => hr _ _ _ (h5 a)⟩
  | .kl ts d, e, h, R, R', hr, hw => dW_mono hW d _ h R R' hr hw
  | .seq a b, e, h, R, R', hr, hw => dW_mono hW a e h _ _ (then_mono (fun e' h' => dW_mono hW b e' h' R R' hr) hr) hw
  | .blk id d, e, h, R, R', hr, hw => dW_mono hW d e h _ _ (inBlk_mono hr) hw
  | .loop d, e, h, R, R', hr, ⟨n, hn⟩ => by
    refine ⟨n, ?_⟩
    induction n generalizing e h with
    | zero => exact hn
    | succ n ih => exact dW_mono hW d e h _ _ (then_mono (fun e' h' => ih e' h') hr) hn
theorem dW_imp {Wc Wc' : WCt} (hm : WMono Wc') (hi : ∀ c e h R, Wc c e h R → Wc' c e h R) : ∀ (d : D) (e : Env) (h : AH) (R : RP), dW Wc d e h R → dW Wc' d e h R
  | .c c, e, h, R, hw => hi c e h R hw
  | .nxt _ _ _, _, _, _, hw => hw
  | .kl ts d, e, h, R, hw => dW_imp hm hi d _ h R hw
  | .seq a b, e, h, R, hw => dW_mono hm a e h _ _ (then_mono (fun e' h' => dW_imp hm hi b e' h' R) fun _ _ _ x => x) (dW_imp hm hi a e h _ hw)
  | .blk id d, e, h, R, hw => dW_imp hm hi d e h _ hw
  | .loop d, e, h, R, ⟨n, hn⟩ => by
    refine ⟨n, ?_⟩
    induction n generalizing e h with
    | zero => exact hn
    | succ n ih => exact dW_mono hm d e h _ _ (then_mono (fun e' h' => ih e' h') fun _ _ _ x => x) (dW_imp hm hi d e h _ hn)

/-! ### Two answers of one run meet -/
def WBoth (Wc : WCt) : Prop := ∀ c e h (R R' : RP), Wc c e h R → Wc c e h R' → ∃ x e' h', R x e' h' ∧ R' x e' h'
theorem then_both {K K' : Env → AH → Prop} {R R' : RP} (hk : ∀ e h, K e h → K' e h → ∃ x e' h', R x e' h' ∧ R' x e' h') {x : X} {e : Env} {h : AH} (h1 : then' K R x e h) (h2 : then' K' R' x e h) : ∃ x e' h', R x e' h' ∧ R' x e' h' := by
  cases x <;> simp only [then'] at h1 h2 <;> first | exact hk _ _ h1 h2 | exact ⟨_, _, _, h1, h2⟩
theorem dW_both {Wc : WCt} (hW : WBoth Wc) : ∀ (d : D) (e : Env) (h : AH) (R R' : RP), dW Wc d e h R → dW Wc d e h R' → ∃ x e' h', R x e' h' ∧ R' x e' h'
  | .c c, e, h, R, R', h1, h2 => hW c e h R R' h1 h2
  | .nxt it dst ok, e, h, R, R', ⟨c, cm, seen, es, a1, a2, a3, a4, a5⟩, ⟨c', cm', seen', es', b1, b2, b3, b4, b5⟩ => by
    rw [a1] at b1; cases b1
    rw [a2] at b2
    simp only [Option.some.injEq, AO.mit.injEq] at b2
    obtain ⟨rfl, _, rfl⟩ := b2
    rw [a3] at b3; cases b3
    by_cases hall : ∀ i, i < es.length → i ∈ seen
    · exact ⟨_, _, _, a5 hall, b5 hall⟩
    · simp only [Classical.not_forall] at hall
      obtain ⟨i, hi, hs⟩ := hall
      have he : es[i]? = some (es[i].1, es[i].2) := List.getElem?_eq_getElem hi
      exact ⟨_, _, _, a4 i _ _ he hs, b4 i _ _ he hs⟩
  | .kl ts d, e, h, R, R', h1, h2 => dW_both hW d _ h R R' h1 h2
  | .seq a b, e, h, R, R', h1, h2 => by
    obtain ⟨x, e', h', k1, k2⟩ := dW_both hW a e h _ _ h1 h2
    exact then_both (fun e' h' => dW_both hW b e' h' R R') k1 k2
  | .blk id d, e, h, R, R', h1, h2 => by
    obtain ⟨x, e', h', k1, k2⟩ := dW_both hW d e h _ _ h1 h2
    cases x <;> simp only [inBlk] at k1 k2
    · exact ⟨_, _, _, k1, k2⟩
    · split at k1
      · rename_i hid; rw [if_pos hid] at k2; exact ⟨_, _, _, k1, k2⟩
      · rename_i hid; rw [if_neg hid] at k2; exact ⟨_, _, _, k1, k2⟩
    · exact ⟨_, _, _, k1, k2⟩
  | .loop d, e, h, R, R', ⟨n, h1⟩, ⟨n', h2⟩ => by
    induction n generalizing e h n' with
    | zero => exact h1.elim
    | succ n ih =>
      cases n' with
      | zero => exact h2.elim
      | succ n' =>
        obtain ⟨x, e', h', k1, k2⟩ := dW_both hW d e h _ _ h1 h2
        exact then_both (fun e' h' a b => ih e' h' a n' b) k1 k2

/-! ### One fuel is enough: a step has few ways on -/
def Wcf (cf : CF) : WCt := fun c e h R => ∃ n x e' h', evC cf n c e h = some (x, e', h') ∧ R x e' h'
theorem Wcf_mono (cf : CF) : WMono (Wcf cf) := fun _ _ _ _ _ hr ⟨n, x, e', h', h1, h2⟩ => ⟨n, x, e', h', h1, hr _ _ _ h2⟩
theorem Wcf_both (cf : CF) : WBoth (Wcf cf) := by
  rintro c e h R R' ⟨n, x, e', h', h1, h2⟩ ⟨n', y, f, g, k1, k2⟩
  have a := evC_mono (CF.le_refl cf) (Nat.le_max_left n n') c h1
  have b := evC_mono (CF.le_refl cf) (Nat.le_max_right n n') c k1
  rw [a] at b; cases b
  exact ⟨_, _, _, h2, k2⟩
theorem Wcf_le {cf cf' : CF} (hle : cf.le cf') (c : C) (e : Env) (h : AH) (R : RP) (hw : Wcf cf c e h R) : Wcf cf' c e h R := by
  obtain ⟨n, x, e', h', h1, h2⟩ := hw
  exact ⟨n, x, e', h', evC_mono hle (Nat.le_refl n) c h1, h2⟩
theorem up_fin {n : Nat} {Q : Nat → Nat → Prop} (hm : ∀ i N N', N ≤ N' → Q i N → Q i N') (h : ∀ i, i < n → ∃ N, Q i N) : ∃ N, ∀ i, i < n → Q i N := by
  induction n with
  | zero => exact ⟨0, fun i hi => by omega⟩
  | succ n ih =>
    obtain ⟨N, hN⟩ := ih fun i hi => h i (by omega)
    obtain ⟨M, hM⟩ := h n (by omega)
    refine ⟨max N M, fun i hi => ?_⟩
    by_cases e : i = n
    · subst e; exact hm _ _ _ (Nat.le_max_right N M) hM
    · exact hm _ _ _ (Nat.le_max_left N M) (hN i (by omega))
theorem dW_fuel {T : Nat → Option FI} {E : Ext} (hE : EMono E) : ∀ (d : D) (e : Env) (h : AH) (R : Nat → RP), (∀ N N', N ≤ N' → ∀ x e' h', R N x e' h' → R N' x e' h') → dW (WC T E) d e h (fun x e' h' => ∃ N, R N x e' h') → ∃ N, dW (Wcf (evF T E N)) d e h (R N) := by
  have le : ∀ {N N' : Nat}, N ≤ N' → (evF T E N).le (evF T E N') := fun hn => evF_mono hE hn
  have up : ∀ {N N' : Nat} (d : D) (e : Env) (h : AH) (R R' : RP), N ≤ N' → (∀ x e' h', R x e' h' → R' x e' h') → dW (Wcf (evF T E N)) d e h R → dW (Wcf (evF T E N')) d e h R' := fun d e h R R' hn hr hw => dW_mono (Wcf_mono _) d e h R R' hr (dW_imp (Wcf_mono _) (fun c e h R => Wcf_le (le hn) c e h R) d e h R hw)
  have tup : ∀ {K : Nat → Env → AH → Prop} {R : Nat → RP}, (∀ N N', N ≤ N' → ∀ e' h', K N e' h' → K N' e' h') → (∀ N N', N ≤ N' → ∀ x e' h', R N x e' h' → R N' x e' h') → ∀ N N', N ≤ N' → ∀ x e' h', then' (K N) (R N) x e' h' → then' (K N') (R N') x e' h' :=
    fun hk hr N N' hn => then_mono (hk N N' hn) (hr N N' hn)
  intro d
  induction d with
  | c c =>
    rintro e h R hm ⟨n, x, e', h', h1, N, h2⟩
    exact ⟨max n N, n, x, e', h', evC_mono (le (Nat.le_max_left n N)) (Nat.le_refl n) c h1, hm _ _ (Nat.le_max_right n N) _ _ _ h2⟩
  | nxt it dst ok =>
    rintro e h R hm ⟨c, cm, seen, es, h1, h2, h3, h4, h5⟩
    have a : ∃ N, ∀ i, i < es.length → ∀ k v, es[i]? = some (k, v) → i ∉ seen → R N .normal ((e.set dst (.tup [.bool true, k, v])).set ok (.bool true)) (h.set c (.mit cm es.length (seen ++ [i]))) := by
      refine up_fin (Q := fun i N => ∀ k v, es[i]? = some (k, v) → i ∉ seen → R N .normal ((e.set dst (.tup [.bool true, k, v])).set ok (.bool true)) (h.set c (.mit cm es.length (seen ++ [i])))) (fun i N N' hn hq k v a b => hm N N' hn _ _ _ (hq k v a b)) fun i hi => ?_
      by_cases hs : i ∈ seen
      · exact ⟨0, fun _ _ _ hns => absurd hs hns⟩
      · obtain ⟨N, hN⟩ := h4 i es[i].1 es[i].2 (List.getElem?_eq_getElem hi) hs
        refine ⟨N, fun k v hkv _ => ?_⟩
        have : es[i]? = some (es[i].1, es[i].2) := List.getElem?_eq_getElem hi
        rw [this] at hkv; cases hkv
        exact hN
    have b : ∃ N, (∀ i, i < es.length → i ∈ seen) → R N .normal ((e.set dst (.tup [.bool false])).set ok (.bool false)) h := by
      by_cases hall : ∀ i, i < es.length → i ∈ seen
      · obtain ⟨N, hN⟩ := h5 hall
        exact ⟨N, fun _ => hN⟩
      · exact ⟨0, fun x => absurd x hall⟩
    obtain ⟨N, hN⟩ := a
    obtain ⟨M, hM⟩ := b
    exact ⟨max N M, c, cm, seen, es, h1, h2, h3, fun i k v hk hs => hm _ _ (Nat.le_max_left N M) _ _ _ (hN i (List.getElem?_eq_some_iff.1 hk).1 k v hk hs), fun hall => hm _ _ (Nat.le_max_right N M) _ _ _ (hM hall)⟩
  | kl ts d ih => intro e h R hm hw; exact ih _ h R hm hw
  | seq a b iha ihb =>
    intro e h R hm hw
    refine iha e h (fun N => then' (fun e' h' => dW (Wcf (evF T E N)) b e' h' (R N)) (R N)) (tup (fun N N' hn e' h' => up b e' h' _ _ hn (hm N N' hn)) hm) ?_
    refine dW_mono (fun c e h R R' hr ⟨n, x, e', h', h1, h2⟩ => ⟨n, x, e', h', h1, hr _ _ _ h2⟩) a e h _ _ ?_ hw
    intro x e' h' hx
    cases x <;> simp only [then'] at hx ⊢
    · exact ihb e' h' R hm hx
    · exact hx
    · exact hx
  | blk id d ih =>
    intro e h R hm hw
    refine ih e h (fun N => inBlk id (R N)) (fun N N' hn => inBlk_mono (hm N N' hn)) ?_
    refine dW_mono (fun c e h R R' hr ⟨n, x, e', h', h1, h2⟩ => ⟨n, x, e', h', h1, hr _ _ _ h2⟩) d e h _ _ ?_ hw
    intro x e' h' hx
    cases x <;> simp only [inBlk] at hx ⊢
    · exact hx
    · split at hx
      · rename_i hid
        obtain ⟨N, hN⟩ := hx
        exact ⟨N, by rw [if_pos hid]; exact hN⟩
      · rename_i hid
        obtain ⟨N, hN⟩ := hx
        exact ⟨N, by rw [if_neg hid]; exact hN⟩
    · exact hx
  | loop d ih =>
    intro e h R hm ⟨n, hn⟩
    have main : ∀ n e h, dRounds (dW (WC T E) d) (fun x e' h' => ∃ N, R N x e' h') n e h → ∃ N, dRounds (dW (Wcf (evF T E N)) d) (R N) n e h := by
      intro n
      induction n with
      | zero => intro e h hw; exact hw.elim
      | succ n ihn =>
        intro e h hw
        have upr : ∀ N N', N ≤ N' → ∀ e' h', dRounds (dW (Wcf (evF T E N)) d) (R N) n e' h' → dRounds (dW (Wcf (evF T E N')) d) (R N') n e' h' := by
          intro N N' hn'
          clear ihn hw hn
          induction n with
          | zero => intro e' h' hx; exact hx
          | succ n ih2 => intro e' h' hx; exact up d e' h' _ _ hn' (then_mono (fun e2 h2 => ih2 e2 h2) (hm N N' hn')) hx
        refine ih e h (fun N => then' (fun e' h' => dRounds (dW (Wcf (evF T E N)) d) (R N) n e' h') (R N)) (tup upr hm) ?_
        refine dW_mono (fun c e h R R' hr ⟨n, x, e', h', h1, h2⟩ => ⟨n, x, e', h', h1, hr _ _ _ h2⟩) d e h _ _ ?_ hw
        intro x e' h' hx
        cases x <;> simp only [then'] at hx ⊢
        · exact ihn e' h' hx
        · exact hx
        · exact hx
    obtain ⟨N, hN⟩ := main n e h hn
    exact ⟨N, n, hN⟩
end Go.Proofs.YtejhhdpfndiliaaGreatDoor.Ab

/- CONTRACTS outside the table of bodies: functions of strings, by what they answer. -/
namespace Go.Proofs.YtejhhdpfndiliaaGreatDoor.Ab
open Go

/-- Functions that turn nothing: of strings and numbers, or of what a slice holds. -/
def pureX (G : List AV → AH → Option AV) : CF → List AV → AH → Option (AV × AH) := fun _ xs h => (G xs h).map (·, h)
def low (s : List UInt8) : Bool := s.all fun b => decide (b.toNat < 128)
def xTrim : List AV → Option AV
  | [.str s, .str c] => if s.length ≤ 4294967280 ∧ c.length ≤ 4294967280 ∧ low c = true then some (.str (Go.Lib.trimS s c)) else none
  | _ => none
def xIndexByte : List AV → Option AV
  | [.str s, .int .u8 c] => some (.int .i64 (Go.Lib.indexByte s c.toNat.toUInt8))
  | _ => none
def xIndex : List AV → Option AV
  | [.str s, .str [c]] => some (.int .i64 (Go.Lib.indexByte s c))
  | _ => none
def xContains : List AV → Option AV
  | [.str s, .str [c]] => some (.bool (decide (0 ≤ Go.Lib.indexByte s c)))
  | _ => none
def xCount : List AV → Option AV
  | [.str s, .str [c]] => some (.int .i64 (Go.Lib.countByte s c))
  | _ => none

def strsOf : List AV → Option (List (List UInt8))
  | [] => some []
  | .str s :: l => (strsOf l).map (s :: ·)
  | _ :: _ => none
def xJoin : List AV → AH → Option AV
  | [.slice c k off len e, .str sep], h => if e = 1 then match rdRow h c k off len with
    | some cs => match strsOf cs with
      | some xs => if (Go.Lib.join xs sep).length ≤ 140737488355328 ∧ len ≤ 140737488355328 then some (.str (Go.Lib.join xs sep)) else none
      | none => none
    | none => none
    else none
  | _, _ => none
def xRepeat : List AV → Option AV
  | [.str s, .int .i64 n] => if 0 ≤ n ∧ n ≤ 9223372036854775807 ∧ s.length * n.toNat ≤ 140737488355328 then some (.str (Go.Lib.repeatL s n.toNat)) else none
  | _ => none

/-- What stands ahead of i and from j on, the rest laid to zero (elements of three numbers). -/
def xDelete3 : List AV → AH → Option (AV × AH)
  | [.slice c k off n e, .int .i64 i, .int .i64 j], h => if e = 3 ∧ 0 ≤ i ∧ i < j ∧ j ≤ (n : Int) ∧ n ≤ 1099511627776 then match rdRow h c k (off + j.toNat * 3) ((n - j.toNat) * 3) with
    | some cs => match wrRow h c k (off + i.toNat * 3) cs with
      | some h1 => match wrRow h1 c k (off + (i.toNat + (n - j.toNat)) * 3) (List.replicate ((j.toNat - i.toNat) * 3) (.int .i64 0)) with
        | some h2 => some (.slice c k off (n - (j.toNat - i.toNat)) 3, h2)
        | none => none
      | none => none
    | none => none
    else none
  | _, _ => none

/-- A slice of texts in order. -/
def xSortS : List AV → AH → Option (AV × AH)
  | [.nilS], h => some (.tup [], h)
  | [.empS], h => some (.tup [], h)
  | [.slice c k off n e], h => if e = 1 ∧ 1 ≤ n ∧ n ≤ 1099511627776 then match rdRow h c k off n with
    | some cs => match strsOf cs with
      | some ss => (wrRow h c k off ((ss.mergeSort fun x y => decide (x ≤ y)).map AV.str)).map fun h' => (.tup [], h')
      | none => none
    | none => none
    else none
  | _, _ => none

/-! ### Texts parted, a sign struck, moves put in order -/
def splA (c : UInt8) : List UInt8 → List UInt8 → List (List UInt8)
  | cur, [] => [cur]
  | cur, b :: s => if b = c then cur :: splA c [] s else splA c (cur ++ [b]) s
theorem splA_cons (c : UInt8) (cur : List UInt8) (b : UInt8) (s : List UInt8) : splA c cur (b :: s) = if b = c then cur :: splA c [] s else splA c (cur ++ [b]) s := rfl
def xSplit : List AV → AH → Option (AV × AH)
  | [.str s, .str [c]], h => if s.length ≤ 4294967280 then some (.slice h.length 0 0 (splA c [] s).length 1, h ++ [.row ((splA c [] s).map AV.str) 0 0 false]) else none
  | _, _ => none
abbrev noB (c : UInt8) (s : List UInt8) : List UInt8 := s.filter fun b => !(b == c)
def xReplaceAll : List AV → Option AV
  | [.str s, .str [c], .str []] => if s.length ≤ 4294967280 then some (.str (noB c s)) else none
  | _ => none
abbrev Mo := Int × Int
def ltMo (a b : Mo) : Prop := a.1 < b.1 ∨ (a.1 = b.1 ∧ a.2 < b.2)
instance (a b : Mo) : Decidable (ltMo a b) := by unfold ltMo; infer_instance
/-- Sorted as the program sorts. -/
def srtMo (l : List Mo) : List Mo := l.mergeSort fun x y => !decide (ltMo y x)
def mosOf : List AV → Option (List Mo)
  | [] => some []
  | .int .i64 a :: .int .i64 b :: l => (mosOf l).map ((a, b) :: ·)
  | _ => none
abbrev moC (l : List Mo) : List AV := l.flatMap fun m => [.int .i64 m.1, .int .i64 m.2]
/-- A slice of moves in order, by the function f. -/
def xSortM (f : Nat) : List AV → AH → Option (AV × AH)
  | [.nilS, .fn g []], h => if g = f then some (.tup [], h) else none
  | [.empS, .fn g []], h => if g = f then some (.tup [], h) else none
  | [.slice c k off n e, .fn g []], h => if g = f ∧ n = 0 then some (.tup [], h) else if g = f ∧ e = 2 ∧ n ≤ 1099511627776 then match rdRow h c k off (n * 2) with
    | some cs => match mosOf cs with
      | some ms => (wrRow h c k off (moC (srtMo ms))).map fun h' => (.tup [], h')
      | none => none
    | none => none
    else none
  | _, _ => none

/-! ### Texts gathered from a map, whose order is not known -/
/-- impl.someReached: the code, its steps over the map left open. -/
def dSome3 : D := .kl [8, 21, 22, 23] (.c (.cond (.t 24) (.reg [⟨some 25, .mov (.t 6), none⟩, ⟨some 26, .mov (.t 7), none⟩, ⟨some 27, .lit 1 1 [.str []] [(0, 1, .t 26)], none⟩, ⟨some 28, .app 1 (.t 25) (.t 27), none⟩, ⟨some 6, .mov (.t 28), none⟩]) .skip))
def dSome2 : D := .seq (.c (.reg [⟨some 21, .mov (.t 1), none⟩, ⟨some 22, .mov (.t 7), none⟩, ⟨some 23, .mov (.t 8), none⟩, ⟨some 24, .callv (.t 21) [.t 22, .t 23], none⟩])) dSome3
def dSome1 : D := .seq (.c (.reg [⟨some 18, .ent (.t 15), none⟩, ⟨some 19, .prj 0 (.t 18), none⟩, ⟨some 20, .prj 1 (.t 18), none⟩, ⟨some 7, .mov (.t 19), none⟩, ⟨some 8, .mov (.t 20), none⟩])) (.kl [18, 19, 20] dSome2)
def dSomeL : D := .kl [7, 8, 16, 17, 18, 19, 20, 21, 22, 23, 24, 25, 26, 27, 28] (.seq (.nxt 15 16 17) (.kl [16] (.seq (.c (.cond (.t 17) .skip (.kl [1, 15, 17] (.exit 0)))) (.kl [17] (.blk 1 dSome1)))))
def dSomeT : D := .seq (.c (.reg [⟨some 29, .mov (.t 6), none⟩, ⟨some 30, .call 275 [.t 29], none⟩])) (.kl [29, 30] (.c (.seq (.reg [⟨some 31, .mov (.t 6), none⟩, ⟨some 4, .mov (.t 31), none⟩, ⟨some 5, .mov (.c (.bool true)), none⟩]) .ret)))
def dSomeM : D := .seq (.seq (.c (.reg [⟨some 13, .mov (.t 0), none⟩, ⟨some 14, .call 273 [.t 13], none⟩, ⟨some 15, .rngM (.t 14), none⟩])) (.kl [0, 13, 14] (.blk 0 (.loop dSomeL)))) dSomeT
def dSome : D :=
  .seq (.c (.reg [⟨some 4, .mov (.c .nilS), none⟩, ⟨some 5, .mov (.c (.bool false)), none⟩]))
  (.seq (.c (.seq (.reg [⟨some 9, .mov (.t 0), none⟩, ⟨some 10, .call 56 [.t 9], none⟩, ⟨some 11, .un .not (.t 10), none⟩]) (.kl [9, 10] (.cond (.t 11) (.seq (.reg [⟨some 4, .mov (.c .nilS), none⟩, ⟨some 5, .mov (.c (.bool false)), none⟩]) .ret) .skip))))
  (.kl [4, 5, 11] (.seq (.c (.reg [⟨some 12, .lit0, none⟩, ⟨some 6, .mov (.t 12), none⟩])) (.kl [12] dSomeM))))
/-- What comes of it: nil, or nothing, or a slice of one's own; a yes or no. -/
def FinR (ra rb : Nat) (h : AH) (q : Nat × Bool × List (List UInt8)) : RP := fun x e' h' => x = .ret ∧ e'.get rb = .bool q.2.1 ∧ (∀ i, i < h.length → h'[i]? = h[i]?) ∧
  ((q.1 = 0 ∧ q.2.2 = [] ∧ e'.get ra = .nilS) ∨ (q.1 = 1 ∧ q.2.2 = [] ∧ e'.get ra = .empS) ∨
   (q.1 = 2 ∧ ∃ r k off n cells fl, e'.get ra = .slice r k off n 1 ∧ h.length ≤ r ∧ h'[r]? = some (.row cells k fl false) ∧ fl ≤ k ∧ n = q.2.2.length ∧ 1 ≤ n ∧ off + n * 1 = cells.length ∧ cells.drop off = q.2.2.map AV.str))
theorem strs_inj : ∀ {a b : List (List UInt8)}, a.map AV.str = b.map AV.str → a = b
  | [], [], _ => rfl
  | [], _ :: _, h => by simp at h
  | _ :: _, [], h => by simp at h
  | x :: a, y :: b, h => by
    simp only [List.map_cons, List.cons.injEq, AV.str.injEq] at h
    rw [h.1, strs_inj h.2]
theorem FinR.uniq {ra rb : Nat} {h h' : AH} {q q' : Nat × Bool × List (List UInt8)} {x : X} {e' : Env} (a : FinR ra rb h q x e' h') (b : FinR ra rb h q' x e' h') : q = q' := by
  obtain ⟨q1, q2, q3⟩ := q
  obtain ⟨p1, p2, p3⟩ := q'
  obtain ⟨_, a1, _, a2⟩ := a
  obtain ⟨_, b1, _, b2⟩ := b
  simp only at a1 b1 a2 b2
  rw [a1] at b1
  simp only [AV.bool.injEq] at b1
  subst b1
  rcases a2 with ⟨rfl, rfl, a3⟩ | ⟨rfl, rfl, a3⟩ | ⟨rfl, r, k, off, n, cells, fl, a3, a4, a5, a6, a7, a8, a9, a10⟩ <;> rcases b2 with ⟨rfl, rfl, b3⟩ | ⟨rfl, rfl, b3⟩ | ⟨rfl, r', k', off', n', cells', fl', b3, b4, b5, b6, b7, b8, b9, b10⟩ <;> rw [a3] at b3 <;> first
    | rfl
    | (cases b3; done)
    | (simp only [AV.slice.injEq] at b3
       obtain ⟨rfl, rfl, rfl, rfl, _⟩ := b3
       rw [a5] at b5
       simp only [Option.some.injEq, AO.row.injEq] at b5
       obtain ⟨rfl, _⟩ := b5
       rw [a10] at b10
       rw [strs_inj b10])
def ansR (h : AH) (q : Nat × Bool × List (List UInt8)) : AV × AH := match q.1 with
  | 0 => (.tup [.nilS, .bool q.2.1], h)
  | 1 => (.tup [.empS, .bool q.2.1], h)
  | _ => (.tup [.slice h.length 0 0 q.2.2.length 1, .bool q.2.1], h ++ [.row (q.2.2.map AV.str) 0 0 false])
open Classical in
noncomputable def xGather (d : D) (ra rb : Nat) : CF → List AV → AH → Option (AV × AH) := fun cf xs h =>
  if H : ∃ q, dW (Wcf cf) d (Env.init 0 xs) h (FinR ra rb h q) then some (ansR h (Classical.choose H)) else none
theorem xGather_at {d : D} {ra rb : Nat} {cf : CF} {xs : List AV} {h : AH} {q : Nat × Bool × List (List UInt8)} (hq : dW (Wcf cf) d (Env.init 0 xs) h (FinR ra rb h q)) : xGather d ra rb cf xs h = some (ansR h q) := by
  have H : ∃ q, dW (Wcf cf) d (Env.init 0 xs) h (FinR ra rb h q) := ⟨q, hq⟩
  unfold xGather
  rw [dif_pos H]
  obtain ⟨x, e', h', a, b⟩ := dW_both (Wcf_both cf) d _ _ _ _ (Classical.choose_spec H) hq
  rw [FinR.uniq a b]
theorem xGather_some {d : D} {ra rb : Nat} {cf : CF} {xs : List AV} {h : AH} {r : AV × AH} (hr : xGather d ra rb cf xs h = some r) : ∃ q, dW (Wcf cf) d (Env.init 0 xs) h (FinR ra rb h q) ∧ r = ansR h q := by
  unfold xGather at hr
  split at hr
  · rename_i H
    cases hr
    exact ⟨_, Classical.choose_spec H, rfl⟩
  · cases hr
theorem xGather_mono {d : D} {ra rb : Nat} {cf cf' : CF} (hle : cf.le cf') {xs : List AV} {h : AH} {r : AV × AH} (hr : xGather d ra rb cf xs h = some r) : xGather d ra rb cf' xs h = some r := by
  obtain ⟨q, hq, rfl⟩ := xGather_some hr
  exact xGather_at (dW_imp (Wcf_mono _) (fun c e h R => Wcf_le hle c e h R) d _ _ _ hq)
noncomputable def xSome : CF → List AV → AH → Option (AV × AH) := xGather dSome 4 5

/-- impl.LinesHalfway: the code, its steps over the map left open. -/
def dHalfB : C := .seq (.cond (.t 29) (.skip) (.kl [8, 27, 29] (.exit 0))) (.kl [29] (.blk 1 (.seq (.reg [⟨some 30, .ent (.t 27), none⟩, ⟨some 31, .prj 0 (.t 30), none⟩, ⟨some 32, .prj 1 (.t 30), none⟩, ⟨some 11, .mov (.t 31), none⟩, ⟨some 12, .mov (.t 32), none⟩]) (.kl [30, 31, 32] (.seq (.reg [⟨some 33, .mov (.t 12), none⟩, ⟨some 34, .mov (.t 8), none⟩, ⟨some 35, .bin .quo (.t 34) (.c (.int .i64 2)), none⟩, ⟨some 36, .bin .eql (.t 33) (.t 35), none⟩]) (.kl [12, 33, 34, 35] (.cond (.t 36) (.kl [36] (.reg [⟨some 37, .mov (.t 10), none⟩, ⟨some 38, .mov (.t 11), none⟩, ⟨some 39, .lit 1 1 [.str []] [(0, 1, .t 38)], none⟩, ⟨some 40, .app 1 (.t 37) (.t 39), none⟩, ⟨some 10, .mov (.t 40), none⟩])) (.skip))))))))
def dHalfL : D := .kl [11, 36, 37, 38, 39, 40] (.seq (.nxt 27 28 29) (.kl [28] (.c dHalfB)))
def dHalfT : C := .seq (.reg [⟨some 41, .mov (.t 10), none⟩, ⟨some 42, .call 275 [.t 41], none⟩]) (.kl [41, 42] (.seq (.reg [⟨some 43, .mov (.t 10), none⟩, ⟨some 6, .mov (.t 43), none⟩, ⟨some 7, .mov (.c (.bool true)), none⟩]) (.kl [10, 43] (.ret))))
def dHalfM : D := .seq (.seq (.c (.reg [⟨some 23, .mov (.t 0), none⟩, ⟨some 24, .mov (.t 1), none⟩, ⟨some 25, .mov (.t 2), none⟩, ⟨some 26, .call 314 [.t 23, .t 24, .t 25], none⟩, ⟨some 27, .rngM (.t 26), none⟩])) (.kl [0, 1, 2, 23, 24, 25, 26] (.blk 0 (.loop dHalfL)))) (.c dHalfT)
def dHalf : D := .seq (.c (.reg [⟨some 6, .mov (.c (.nilS)), none⟩, ⟨some 7, .mov (.c (.bool false)), none⟩])) (.kl [6, 7] (.seq (.c (.reg [⟨some 14, .mov (.t 0), none⟩, ⟨some 15, .mov (.t 1), none⟩, ⟨some 16, .mov (.t 2), none⟩, ⟨some 17, .call 313 [.t 14, .t 15, .t 16], none⟩, ⟨some 13, .mov (.t 17), none⟩, ⟨some 18, .prj 0 (.t 13), none⟩, ⟨some 19, .prj 1 (.t 13), none⟩, ⟨some 8, .mov (.t 18), none⟩, ⟨some 9, .mov (.t 19), none⟩])) (.kl [13, 14, 15, 16, 17, 18, 19] (.seq (.c (.seq (.reg [⟨some 20, .mov (.t 9), none⟩, ⟨some 21, .un .not (.t 20), none⟩]) (.kl [9, 20] (.cond (.t 21) (.kl [0, 1, 2, 8, 21] (.seq (.reg [⟨some 6, .mov (.c (.nilS)), none⟩, ⟨some 7, .mov (.c (.bool false)), none⟩]) (.ret))) (.skip))))) (.kl [21] (.seq (.c (.reg [⟨some 22, .lit0, none⟩, ⟨some 10, .mov (.t 22), none⟩])) (.kl [22] dHalfM)))))))
noncomputable def xHalf : CF → List AV → AH → Option (AV × AH) := xGather dHalf 6 7

def xtab : List (Nat × (List AV → AH → Option AV)) := [(111, fun xs _ => xTrim xs), (190, fun xs _ => xIndexByte xs), (131, fun xs _ => xCount xs), (123, fun xs _ => xRepeat xs)]
def ytab : List (Nat × (List AV → AH → Option (AV × AH))) := []
noncomputable def ztab : List (Nat × (CF → List AV → AH → Option (AV × AH))) := []
noncomputable def E : Ext := fun f => match xtab.find? fun x => x.1 == f with
  | some x => some (pureX x.2)
  | none => match ytab.find? fun x => x.1 == f with
    | some x => some fun _ xs h => x.2 xs h
    | none => (ztab.find? fun x => x.1 == f).map fun x => x.2
theorem ztab_mono : ∀ x ∈ ztab, ∀ cf cf' : CF, cf.le cf' → ∀ xs h r, x.2 cf xs h = some r → x.2 cf' xs h = some r := by
  intro x hx
  simp only [ztab, List.mem_cons, List.not_mem_nil, or_false] at hx
  all_goals cases hx
theorem hE : EMono E := by
  intro f G h cf cf' _ xs hh r hr
  unfold E at h
  split at h
  · cases h; exact hr
  · split at h
    · cases h; exact hr
    · simp only [Option.map_eq_some_iff] at h
      obtain ⟨x, hx, rfl⟩ := h
      exact ztab_mono x (List.mem_of_find?_eq_some hx) cf cf' ‹_› xs hh r hr
end Go.Proofs.YtejhhdpfndiliaaGreatDoor.Ab

/- THE RELATION between the abstract machine's states and the model's. -/
namespace Go.Proofs.YtejhhdpfndiliaaGreatDoor.Ab
open Go Go.RowKit

structure Place where
  blk : Nat
  base : Nat
  lo : Nat
  ext : Nat
  siz : Nat

structure Emb where
  row : Nat → Nat → Option Place
  obj : Nat → Option Nat

mutual
def RelV (F : Nat → Nat) (m : Emb) : AV → Value → Prop
  | .int k n, v => v = .int k n
  | .bool b, v => v = .bool b
  | .str s, v => v = .string ⟨s.toArray⟩
  | .nilS, v => v = .slice none 0 0
  | .empS, v => ∃ a, v = .slice (some a) 0 0
  | .slice c k off len esz, v => ∃ p o cap, m.row c k = some p ∧ v = .slice (some ⟨p.blk, o, none⟩) len cap ∧ len ≤ cap ∧
      (cap = 0 ∨ (p.lo ≤ off ∧ o = p.base + (off - p.lo) ∧ off + len * esz ≤ p.ext ∧ p.base + (off - p.lo) + cap * esz ≤ p.siz))
  | .nilP, v => v = .pointer none
  | .ptr c k off n, v => ∃ p, m.row c k = some p ∧ v = .pointer (some ⟨p.blk, p.base + (off - p.lo), none⟩) ∧ p.lo ≤ off ∧ off + n ≤ p.ext
  | .nilM, v => v = .map none
  | .map c, v => ∃ b, m.obj c = some b ∧ v = .map (some b)
  | .iter c, v => ∃ b, m.obj c = some b ∧ v = .pointer (some ⟨b, 0, none⟩)
  | .fn f cap, v => ∃ vs, v = .func (.func (F f)) #[] vs ∧ RelL F m cap vs.toList
  | .nilF, v => v = .nilFunc
  | .agg xs, v => ∃ vs, v = .agg vs ∧ RelL F m xs vs.toList
  | .tup xs, v => ∃ vs, v = .tuple vs ∧ RelL F m xs vs.toList
  | .nilI, v => v = .nilIface
  | .ifc, v => ∃ t u, v = .iface t u
  | .undef, _ => True
def RelL (F : Nat → Nat) (m : Emb) : List AV → List Value → Prop
  | [], l => l = []
  | x :: xs, l => ∃ v vs, l = v :: vs ∧ RelV F m x v ∧ RelL F m xs vs
end

def RelE (F : Nat → Nat) (m : Emb) : List (AV × AV) → List MapEntry → Prop
  | [], l => l = []
  | (k, v) :: es, l => ∃ e l', l = e :: l' ∧ RelV F m k e.key ∧ RelV F m v e.val ∧ RelE F m es l'

def Emb.le (m m' : Emb) : Prop := (∀ c k p, m.row c k = some p → m'.row c k = some p) ∧ ∀ c b, m.obj c = some b → m'.obj c = some b
theorem Emb.le_refl (m : Emb) : m.le m := ⟨fun _ _ _ h => h, fun _ _ h => h⟩
theorem Emb.le_trans {m m' m'' : Emb} (h : m.le m') (h' : m'.le m'') : m.le m'' := ⟨fun _ _ _ x => h'.1 _ _ _ (h.1 _ _ _ x), fun _ _ x => h'.2 _ _ (h.2 _ _ x)⟩

mutual
theorem RelV.mono {F : Nat → Nat} {m m' : Emb} (hm : m.le m') : ∀ (x : AV) (v : Value), RelV F m x v → RelV F m' x v
  | .int .., _, h | .bool _, _, h | .str _, _, h | .nilS, _, h | .empS, _, h | .nilP, _, h | .nilM, _, h | .nilF, _, h | .nilI, _, h | .ifc, _, h | .undef, _, h => by simp only [RelV] at h ⊢ <;> exact h
  | .slice .., _, h => by
    simp only [RelV] at h ⊢
    obtain ⟨p, o, cap, h1, h2⟩ := h
    exact ⟨p, o, cap, hm.1 _ _ _ h1, h2⟩
  | .ptr .., _, h => by
    simp only [RelV] at h ⊢
    obtain ⟨p, h1, h2⟩ := h
    exact ⟨p, hm.1 _ _ _ h1, h2⟩
  | .map _, _, h => by
    simp only [RelV] at h ⊢
    obtain ⟨b, h1, h2⟩ := h
    exact ⟨b, hm.2 _ _ h1, h2⟩
  | .iter _, _, h => by
    simp only [RelV] at h ⊢
    obtain ⟨b, h1, h2⟩ := h
    exact ⟨b, hm.2 _ _ h1, h2⟩
  | .fn _ cap, _, h => by
    simp only [RelV] at h ⊢
    obtain ⟨vs, h1, h2⟩ := h
    exact ⟨vs, h1, RelL.mono hm cap _ h2⟩
  | .agg xs, _, h => by
    simp only [RelV] at h ⊢
    obtain ⟨vs, h1, h2⟩ := h
    exact ⟨vs, h1, RelL.mono hm xs _ h2⟩
  | .tup xs, _, h => by
    simp only [RelV] at h ⊢
    obtain ⟨vs, h1, h2⟩ := h
    exact ⟨vs, h1, RelL.mono hm xs _ h2⟩
theorem RelL.mono {F : Nat → Nat} {m m' : Emb} (hm : m.le m') : ∀ (xs : List AV) (l : List Value), RelL F m xs l → RelL F m' xs l
  | [], _, h => by simpa only [RelL] using h
  | x :: xs, _, h => by
    simp only [RelL] at h ⊢
    obtain ⟨v, vs, h1, h2, h3⟩ := h
    exact ⟨v, vs, h1, RelV.mono hm x v h2, RelL.mono hm xs vs h3⟩
end

theorem RelE.mono {F : Nat → Nat} {m m' : Emb} (hm : m.le m') : ∀ (es : List (AV × AV)) (l : List MapEntry), RelE F m es l → RelE F m' es l
  | [], _, h => h
  | (k, v) :: es, l, h => by
    obtain ⟨e, l', h1, h2, h3, h4⟩ := h
    exact ⟨e, l', h1, RelV.mono hm _ _ h2, RelV.mono hm _ _ h3, RelE.mono hm es l' h4⟩

/-! ### Lists -/
theorem RelL.length {F : Nat → Nat} {m : Emb} : ∀ {xs : List AV} {l : List Value}, RelL F m xs l → l.length = xs.length
  | [], _, h => by simp only [RelL] at h; subst h; rfl
  | x :: xs, _, h => by
    simp only [RelL] at h
    obtain ⟨v, vs, rfl, _, h3⟩ := h
    simp [RelL.length h3]
theorem RelL.get {F : Nat → Nat} {m : Emb} : ∀ {xs : List AV} {l : List Value}, RelL F m xs l → ∀ (i : Nat) (x : AV), xs[i]? = some x → ∃ v, l[i]? = some v ∧ RelV F m x v
  | [], _, _, i, x, hx => by simp at hx
  | y :: xs, _, h, i, x, hx => by
    simp only [RelL] at h
    obtain ⟨v, vs, rfl, h2, h3⟩ := h
    cases i with
    | zero => simp at hx; subst hx; exact ⟨v, rfl, h2⟩
    | succ i => simp at hx; simpa using RelL.get h3 i x hx
theorem RelL.of {F : Nat → Nat} {m : Emb} : ∀ {xs : List AV} {l : List Value}, l.length = xs.length → (∀ (i : Nat) (x : AV) (v : Value), xs[i]? = some x → l[i]? = some v → RelV F m x v) → RelL F m xs l
  | [], l, hl, _ => by simp only [RelL]; exact List.eq_nil_of_length_eq_zero (by simpa using hl)
  | x :: xs, [], hl, _ => by simp at hl
  | x :: xs, v :: l, hl, h => by
    simp only [RelL]
    exact ⟨v, l, rfl, h 0 x v rfl rfl, RelL.of (by simpa using hl) fun i y u hy hu => h (i + 1) y u (by simpa using hy) (by simpa using hu)⟩
theorem RelL.append {F : Nat → Nat} {m : Emb} : ∀ {xs ys : List AV} {l l' : List Value}, RelL F m xs l → RelL F m ys l' → RelL F m (xs ++ ys) (l ++ l')
  | [], _, _, _, h, h' => by simp only [RelL] at h; subst h; simpa using h'
  | x :: xs, _, _, _, h, h' => by
    simp only [RelL] at h
    obtain ⟨v, vs, rfl, h2, h3⟩ := h
    simp only [List.cons_append, RelL]
    exact ⟨v, _, rfl, h2, h3.append h'⟩
theorem RelL.take {F : Nat → Nat} {m : Emb} (n : Nat) : ∀ {xs : List AV} {l : List Value}, RelL F m xs l → RelL F m (xs.take n) (l.take n)
  | [], _, h => by simp only [RelL] at h; subst h; simp [RelL]
  | x :: xs, _, h => by
    simp only [RelL] at h
    obtain ⟨v, vs, rfl, h2, h3⟩ := h
    cases n with
    | zero => simp [RelL]
    | succ n => simp only [List.take_succ_cons, RelL]; exact ⟨v, _, rfl, h2, h3.take n⟩
theorem RelL.drop {F : Nat → Nat} {m : Emb} (n : Nat) : ∀ {xs : List AV} {l : List Value}, RelL F m xs l → RelL F m (xs.drop n) (l.drop n)
  | [], _, h => by simp only [RelL] at h; subst h; simp [RelL]
  | x :: xs, _, h => by
    cases n with
    | zero => simpa using h
    | succ n =>
      simp only [RelL] at h
      obtain ⟨v, vs, rfl, h2, h3⟩ := h
      simpa using h3.drop n

/-- The cells of related values are related. -/
theorem RelV.cells {F : Nat → Nat} {m : Emb} {x : AV} {v : Value} (h : RelV F m x v) (hx : ∀ xs, x ≠ .tup xs) (hu : x ≠ .undef) : RelL F m x.cells v.cells.toList := by
  cases x <;> first
    | exact absurd rfl hu
    | exact absurd rfl (hx _)
    | (simp only [RelV] at h; obtain ⟨vs, rfl, h2⟩ := h; exact h2)
    | (have h' := h; simp only [RelV] at h'
       first
         | (subst h'; simp only [AV.cells, Value.cells, RelL]; exact ⟨_, _, rfl, h, rfl⟩)
         | (obtain ⟨a, rfl⟩ := h'; simp only [AV.cells, Value.cells, RelL]; exact ⟨_, _, rfl, h, rfl⟩)
         | (obtain ⟨a, b, rfl⟩ := h'; simp only [AV.cells, Value.cells, RelL]; exact ⟨_, _, rfl, h, rfl⟩)
         | (obtain ⟨a, h1, rfl⟩ := h'; simp only [AV.cells, Value.cells, RelL]; exact ⟨_, _, rfl, h, rfl⟩)
         | (obtain ⟨a, rfl, h1⟩ := h'; simp only [AV.cells, Value.cells, RelL]; exact ⟨_, _, rfl, h, rfl⟩)
         | (obtain ⟨a, h1, rfl, h2⟩ := h'; simp only [AV.cells, Value.cells, RelL]; exact ⟨_, _, rfl, h, rfl⟩)
         | (obtain ⟨a, b, c, h1, rfl, h2⟩ := h'; simp only [AV.cells, Value.cells, RelL]; exact ⟨_, _, rfl, h, rfl⟩))

theorem RelV.one {F : Nat → Nat} {m : Emb} {x : AV} {v : Value} (h : RelV F m x v) (hx : x.sc = true) : v.oneCell' = true := by
  cases x <;> simp only [AV.sc] at hx <;> first
    | (cases hx; done)
    | (simp only [RelV] at h
       first
         | (subst h; rfl)
         | (obtain ⟨a, rfl⟩ := h; rfl)
         | (obtain ⟨a, b, rfl⟩ := h; rfl)
         | (obtain ⟨a, h1, rfl⟩ := h; rfl)
         | (obtain ⟨a, rfl, h1⟩ := h; rfl)
         | (obtain ⟨a, h1, rfl, h2⟩ := h; rfl)
         | (obtain ⟨a, b, c, h1, rfl, h2⟩ := h; rfl))

/-! ### Heaps -/
def ObjRel (F : Nat → Nat) (base : Nat) (m : Emb) (w : World) (c : Nat) : AO → Prop
  | .row cs ver fl ro => ∀ k p, m.row c k = some p → fl ≤ k → k ≤ ver ∧ p.ext ≤ cs.length ∧ (k = ver → p.ext = cs.length) ∧ (ro = false → base ≤ p.blk) ∧
      ∃ C e fr, w.heap[p.blk]? = some (.cells C e fr) ∧ C.size = p.siz ∧ p.base + (p.ext - p.lo) ≤ p.siz ∧ (ro = false → p.siz ≤ fr.1 ∨ fr.2 ≤ fr.1) ∧
        ∀ j, p.lo ≤ j → j < p.ext → ∃ x v, cs[j]? = some x ∧ C[p.base + (j - p.lo)]? = some v ∧ RelV F m x v
  | .map es => ∀ b, m.obj c = some b → base ≤ b ∧ ∃ E clk, w.heap[b]? = some (.map E clk) ∧ RelE F m es E.toList ∧ clk = E.size ∧ ∀ (i : Nat) (e : MapEntry), E[i]? = some e → e.born = i
  | .iter s pos => ∀ b, m.obj c = some b → base ≤ b ∧ w.heap[b]? = some (.stringIter ⟨s.toArray⟩ pos)
  | .mit cm since seen => ∀ b, m.obj c = some b → base ≤ b ∧ ∃ bm sn, m.obj cm = some bm ∧ w.heap[b]? = some (.mapIter (some bm) since sn since) ∧ sn.toList = seen

def AO.isRow : AO → Bool
  | .row .. => true
  | _ => false

structure RelH (F : Nat → Nat) (base : Nat) (m : Emb) (h : AH) (w : World) : Prop where
  rowc : ∀ c k p, m.row c k = some p → ∃ o, h[c]? = some o ∧ o.isRow = true
  objc : ∀ c b, m.obj c = some b → ∃ o, h[c]? = some o ∧ o.isRow = false
  ob : ∀ c o, h[c]? = some o → ObjRel F base m w c o
  inj : ∀ c k p c' k' p', m.row c k = some p → m.row c' k' = some p' → base ≤ p.blk → p.blk = p'.blk → c = c' ∧ p.base + p'.lo = p'.base + p.lo ∧ p.siz = p'.siz
  injo : ∀ c c' b, m.obj c = some b → m.obj c' = some b → c = c'
  injr : ∀ c k p c' b, m.row c k = some p → m.obj c' = some b → p.blk ≠ b
  ltr : ∀ c k p, m.row c k = some p → p.blk < w.heap.size
  lto : ∀ c b, m.obj c = some b → b < w.heap.size
  vers : ∀ c cs ver fl ro k p, h[c]? = some (.row cs ver fl ro) → m.row c k = some p → k ≤ ver
  le : base ≤ w.heap.size

def Emb.has (m : Emb) (b : Nat) : Prop := (∃ c k p, m.row c k = some p ∧ p.blk = b) ∨ ∃ c, m.obj c = some b
def Emb.placed (m : Emb) (c : Nat) : Prop := (∃ k p, m.row c k = some p) ∨ ∃ b, m.obj c = some b

/-- What a piece of the run does. -/
structure StepR (F : Nat → Nat) (base : Nat) (m : Emb) (h : AH) (w : World) (m' : Emb) (h' : AH) (w' : World) : Prop where
  le : m.le m'
  rel : RelH F base m' h' w'
  os : w'.os = w.os
  tape : w'.tape = w.tape
  out : w'.output = w.output
  size : w.heap.size ≤ w'.heap.size
  frame : ∀ b, b < w.heap.size → (b < base ∨ ¬ m.has b) → w'.heap[b]? = w.heap[b]?
  newr : ∀ c k p, m'.row c k = some p → m.row c k = some p ∨ ((h.length ≤ c ∨ ∃ k0 p0, m.row c k0 = some p0) ∧ (w.heap.size ≤ p.blk ∨ ∃ k0 p0, m.row c k0 = some p0 ∧ p0.blk = p.blk))
  newo : ∀ c b, m'.obj c = some b → m.obj c = some b ∨ (h.length ≤ c ∧ w.heap.size ≤ b)
  unpl : ∀ c, c < h.length → ¬ m.placed c → h'[c]? = h[c]?
  len : h.length ≤ h'.length

theorem StepR.refl {F : Nat → Nat} {base : Nat} {m : Emb} {h : AH} {w : World} (hr : RelH F base m h w) : StepR F base m h w m h w :=
  ⟨Emb.le_refl m, hr, rfl, rfl, rfl, Nat.le_refl _, fun _ _ _ => rfl, fun _ _ _ h => .inl h, fun _ _ h => .inl h, fun _ _ _ => rfl, Nat.le_refl _⟩

theorem StepR.trans {F : Nat → Nat} {base : Nat} {m m' m'' : Emb} {h h' h'' : AH} {w w' w'' : World} (a : StepR F base m h w m' h' w') (b : StepR F base m' h' w' m'' h'' w'') :
    StepR F base m h w m'' h'' w'' where
  le := Emb.le_trans a.le b.le
  rel := b.rel
  os := b.os.trans a.os
  tape := b.tape.trans a.tape
  out := b.out.trans a.out
  size := Nat.le_trans a.size b.size
  frame := by
    intro i hi hb
    rw [b.frame i (Nat.lt_of_lt_of_le hi a.size) ?_, a.frame i hi hb]
    rcases hb with hb | hb
    · exact .inl hb
    · refine .inr fun hh => hb ?_
      rcases hh with ⟨c, k, p, h1, h2⟩ | ⟨c, h1⟩
      · rcases a.newr c k p h1 with h3 | ⟨_, h3 | ⟨k0, p0, h3, h4⟩⟩
        · exact .inl ⟨c, k, p, h3, h2⟩
        · omega
        · exact .inl ⟨c, k0, p0, h3, h4.trans h2⟩
      · rcases a.newo c i h1 with h3 | ⟨_, h3⟩
        · exact .inr ⟨c, h3⟩
        · omega
  newr := by
    intro c k p h1
    rcases b.newr c k p h1 with h2 | ⟨h2, h3⟩
    · exact a.newr c k p h2
    · refine .inr ⟨?_, ?_⟩
      · rcases h2 with h2 | ⟨k0, p0, h2⟩
        · exact .inl (Nat.le_trans a.len h2)
        · rcases a.newr c k0 p0 h2 with h4 | ⟨h4, _⟩
          · exact .inr ⟨k0, p0, h4⟩
          · exact h4
      · rcases h3 with h3 | ⟨k0, p0, h3, h4⟩
        · exact .inl (Nat.le_trans a.size h3)
        · rcases a.newr c k0 p0 h3 with h5 | ⟨_, h5 | ⟨k1, p1, h5, h6⟩⟩
          · exact .inr ⟨k0, p0, h5, h4⟩
          · exact .inl (h4 ▸ h5)
          · exact .inr ⟨k1, p1, h5, h6.trans h4⟩
  newo := by
    intro c i h1
    rcases b.newo c i h1 with h2 | ⟨h2, h3⟩
    · exact a.newo c i h2
    · exact .inr ⟨Nat.le_trans a.len h2, Nat.le_trans a.size h3⟩
  unpl := by
    intro c hc hn
    rw [b.unpl c (Nat.lt_of_lt_of_le hc a.len) ?_, a.unpl c hc hn]
    rintro (⟨k, p, h1⟩ | ⟨i, h1⟩)
    · rcases a.newr c k p h1 with h2 | ⟨h2 | ⟨k0, p0, h2⟩, _⟩
      · exact hn (.inl ⟨k, p, h2⟩)
      · omega
      · exact hn (.inl ⟨k0, p0, h2⟩)
    · rcases a.newo c i h1 with h2 | ⟨h2, _⟩
      · exact hn (.inr ⟨i, h2⟩)
      · omega
  len := Nat.le_trans a.len b.len

theorem StepR.below {F : Nat → Nat} {base : Nat} {m m' : Emb} {h h' : AH} {w w' : World} (a : StepR F base m h w m' h' w') (hb : base ≤ w.heap.size) : Below base w w' :=
  ⟨a.os, a.tape, a.out, a.size, fun i hi => a.frame i (Nat.lt_of_lt_of_le hi hb) (.inl hi)⟩

/-! ### Environments -/
def RelEnv (F : Nat → Nat) (m : Emb) (e : Env) (tmps : Array Value) : Prop := ∀ t, RelV F m (e.get t) (tmps.getD t undef)
theorem RelEnv.mono {F : Nat → Nat} {m m' : Emb} {e : Env} {tmps : Array Value} (hm : m.le m') (h : RelEnv F m e tmps) : RelEnv F m' e tmps := fun t => RelV.mono hm _ _ (h t)
theorem Env.get_set (e : Env) (t u : Nat) (v : AV) : (e.set t v).get u = if t = u then v else e.get u := by
  induction e with
  | nil => simp only [Env.set, Env.get]
  | cons x e ih =>
    obtain ⟨k, y⟩ := x
    simp only [Env.set]
    by_cases h : k = t
    · simp only [if_pos h, Env.get]; subst h; split <;> rfl
    · simp only [if_neg h]
      split
      · simp only [Env.get]
      · simp only [Env.get, ih]
        by_cases h1 : k = u
        · simp only [if_pos h1]; rw [if_neg]; omega
        · simp only [if_neg h1]
theorem Env.get_del (e : Env) (t u : Nat) : (e.del t).get u = if t = u then .undef else e.get u := by
  induction e with
  | nil => simp [Env.del, Env.get]
  | cons x e ih =>
    obtain ⟨k, y⟩ := x
    simp only [Env.del]
    by_cases h : k = t
    · simp only [if_pos h, ih, Env.get]; subst h; split <;> rfl
    · simp only [if_neg h, Env.get, ih]
      by_cases h1 : k = u
      · simp only [if_pos h1]; rw [if_neg]; omega
      · simp only [if_neg h1]
theorem RelEnv.del {F : Nat → Nat} {m : Emb} {e : Env} {tmps : Array Value} (h : RelEnv F m e tmps) (t : Nat) : RelEnv F m (e.del t) tmps := by
  intro u
  rw [Env.get_del]
  split
  · simp only [RelV]
  · exact h u
theorem RelEnv.dels {F : Nat → Nat} {m : Emb} {tmps : Array Value} : ∀ (ts : List Nat) {e : Env}, RelEnv F m e tmps → RelEnv F m (e.dels ts) tmps
  | [], _, h => h
  | t :: ts, _, h => RelEnv.dels ts (h.del t)
theorem getD_set (tmps : Array Value) (t u : Nat) (v : Value) : (tmps.setIfInBounds t v).getD u undef = if t = u ∧ t < tmps.size then v else tmps.getD u undef := by
  simp only [Array.getD_eq_getD_getElem?, Array.getElem?_setIfInBounds]
  by_cases h : t = u
  · subst h
    by_cases h2 : t < tmps.size <;> simp [h2]
  · simp [h]
theorem RelEnv.put {F : Nat → Nat} {m : Emb} {e : Env} {a : Act} (h : RelEnv F m e a.tmps) {r : AV} {v : Value} (hv : RelV F m r v) (d : Option Nat) (hd : ∀ t, d = some t → t < a.tmps.size) :
    RelEnv F m (Ab.put e d r) (a.put d v).tmps := by
  cases d with
  | none => exact h
  | some t =>
    intro u
    simp only [Ab.put, Act.put, Env.get_set]
    rw [getD_set]
    have := hd t rfl
    by_cases h1 : t = u
    · simp only [if_pos h1, if_pos (And.intro h1 this)]; exact hv
    · simp only [if_neg h1, h1, false_and, if_false]; exact h u
theorem init_get : ∀ (xs : List AV) (i t : Nat), (Env.init i xs).get t = if i ≤ t ∧ t < i + xs.length then xs.getD (t - i) .undef else .undef
  | [], i, t => by simp [Env.init, Env.get]
  | x :: xs, i, t => by
    simp only [Env.init, Env.get, init_get xs (i + 1) t, List.length_cons]
    by_cases h : i = t
    · subst h; simp
    · simp only [if_neg h]
      by_cases h1 : i + 1 ≤ t ∧ t < i + 1 + xs.length
      · rw [if_pos h1, if_pos (by omega)]
        obtain ⟨d, rfl⟩ : ∃ d, t = i + 1 + d := ⟨t - (i + 1), by omega⟩
        rw [show i + 1 + d - i = d + 1 by omega, show i + 1 + d - (i + 1) = d by omega]; simp
      · rw [if_neg h1, if_neg (by omega)]

end Go.Proofs.YtejhhdpfndiliaaGreatDoor.Ab
