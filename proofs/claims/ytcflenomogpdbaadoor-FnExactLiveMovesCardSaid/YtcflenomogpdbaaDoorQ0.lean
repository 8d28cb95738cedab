/- Part 1 of the proof of a law of the given program: the rules that it leans on, and what the functions that it reaches answer; the conditions stand with each theorem. -/
import Derived.Tactics
import Derived.WalkKit
import Derived.Lib.Bytealg
import Derived.Lib.SlTrimSet
import Derived.Lib.Join
import Derived.Lib.Repeat
set_option linter.unusedSimpArgs false
set_option linter.unusedVariables false
/- THE ABSTRACT MACHINE: values, heap, compact instructions, evaluator. No program in sight. -/
namespace Go.Proofs.YtcflenomogpdbaaDoor.Ab
open Go

/-! ### Values and heap -/
inductive AV where
  | int (k : IntKind) (n : Int)
  | bool (b : Bool)
  | str (s : List UInt8)
  | nilS
  | empS
  | slice (c k off len esz : Nat)
  | nilP
  | ptr (c k off n : Nat)
  | nilM
  | map (c : Nat)
  | iter (c : Nat)
  | fn (f : Nat) (cap : List AV)
  | nilF
  | agg (xs : List AV)
  | tup (xs : List AV)
  | nilI
  | ifc
  | undef
  deriving Inhabited

inductive AO where
  | row (cs : List AV) (ver floor : Nat) (ro : Bool)
  | map (es : List (AV × AV))
  | iter (s : List UInt8) (pos : Nat)
  | mit (cm since : Nat) (seen : List Nat)
  deriving Inhabited

abbrev AH := List AO

def AV.cells : AV → List AV
  | .agg xs => xs
  | v => [v]

/-- A value that fills one cell. -/
def AV.sc : AV → Bool
  | .agg _ | .tup _ | .undef => false
  | _ => true

def mkv (agg : Bool) (xs : List AV) : Option AV :=
  if agg then some (.agg xs) else match xs with
    | [v] => some v
    | _ => none

/-! ### Environments: slots that are known -/
abbrev Env := List (Nat × AV)
def Env.get : Env → Nat → AV
  | [], _ => .undef
  | (k, v) :: e, t => if k = t then v else Env.get e t
def Env.set : Env → Nat → AV → Env
  | [], t, v => [(t, v)]
  | (k, u) :: e, t, v => if k = t then (t, v) :: e else if t < k then (t, v) :: (k, u) :: e else (k, u) :: Env.set e t v
def Env.del : Env → Nat → Env
  | [], _ => []
  | (k, u) :: e, t => if k = t then Env.del e t else (k, u) :: Env.del e t
def Env.dels (e : Env) : List Nat → Env
  | [] => e
  | t :: ts => Env.dels (e.del t) ts
def Env.init : Nat → List AV → Env
  | _, [] => []
  | i, v :: vs => (i, v) :: Env.init (i + 1) vs

/-! ### Instructions -/
inductive Opd where
  | t (n : Nat)
  | c (v : AV)

inductive AOp where
  | mov (x : Opd)
  | pick (c a b : Opd)
  | bin (op : BinOp) (x y : Opd)
  | beq (neg : Bool) (x y : Opd)
  | aeq (neg : Bool) (kds : List Nat) (x y : Opd)
  | niq (neg : Bool) (kd : Nat) (x : Opd)
  | un (op : UnOp) (x : Opd)
  | conv (k : IntKind) (x : Opd)
  | toB (x : Opd)
  | ofB (x : Opd)
  | ofR (x : Opd)
  | new (zero : List AV)
  | box (x : Opd)
  | build (zero : List AV) (parts : List (Nat × Nat × Opd))
  | lit (esz len : Nat) (zero : List AV) (parts : List (Nat × Nat × Opd))
  | lit0
  | load (agg : Bool) (n : Nat) (a : Opd)
  | store (n : Nat) (a x : Opd)
  | nck (x : Opd)
  | faddr (off n : Nat) (a : Opd)
  | fld (agg : Bool) (off n : Nat) (x : Opd)
  | iaddr (esz : Nat) (x i : Opd)
  | iaddrA (len esz : Nat) (a i : Opd)
  | idx (agg : Bool) (len esz : Nat) (x i : Opd)
  | idxS (x i : Opd)
  | sub (esz : Nat) (x : Opd) (lo hi : Option Opd)
  | sub0 (x : Opd) (hi mx : Opd)
  | subS (x : Opd) (lo hi : Option Opd)
  | subA (len esz : Nat) (a : Opd) (lo hi : Option Opd)
  | make (esz : Nat) (zero : List AV) (len cap : Opd)
  | mkmap
  | mkfn (f : Nat) (caps : List Opd)
  | look (kd : Nat) (zero : AV) (ok : Bool) (m k : Opd)
  | mset (kd : Nat) (m k v : Opd)
  | mlen (m : Opd)
  | rng (x : Opd)
  | rngM (x : Opd)
  | ent (it : Opd)
  | nxt (it : Opd)
  | prj (i : Nat) (x : Opd)
  | call (f : Nat) (xs : List Opd)
  | callv (x : Opd) (xs : List Opd)
  | lenS (x : Opd)
  | lenV (x : Opd)
  | app (esz : Nat) (s x : Opd)
  | appS (s x : Opd)
  | copy (esz : Nat) (d s : Opd)
  | clr (zero : List AV) (x : Opd)
  | mmx (max : Bool) (x y : Opd)

structure I where
  dst : Option Nat
  op : AOp
  grd : Option (Nat × Bool) := none

inductive C where
  | skip
  | reg (is : List I)
  | drw (is : List I) (ps : List (Nat × Nat))
  | kl (ts : List Nat) (c : C)
  | seq (a b : C)
  | cond (x : Opd) (a b : C)
  | blk (id : Nat) (c : C)
  | loop (c : C)
  | exit (id : Nat)
  | ret
  | bad

inductive Res where
  | tmp (t : Nat)
  | cell (agg : Bool) (n : Nat) (t : Nat)

structure FI where
  body : C
  res : List Res

/-! ### Memory -/
def room : Nat := 1099511627776

def rdRow (h : AH) (c k off n : Nat) : Option (List AV) :=
  match h[c]? with
  | some (.row cs ver fl _) => if fl ≤ k ∧ k ≤ ver ∧ off + n ≤ cs.length then some ((cs.drop off).take n) else none
  | _ => none

def splice {α : Type} (cs : List α) (off : Nat) (vs : List α) : List α := cs.take off ++ vs ++ cs.drop (off + vs.length)

def wrRow (h : AH) (c k off : Nat) (vs : List AV) : Option AH :=
  match h[c]? with
  | some (.row cs ver fl false) => if k = ver ∧ fl ≤ ver ∧ off + vs.length ≤ cs.length ∧ vs.all AV.sc = true then some (h.set c (.row (splice cs off vs) ver ver false)) else none
  | _ => none

def newRow (h : AH) (cs : List AV) : Option (Nat × AH) := if cs.all AV.sc = true then some (h.length, h ++ [.row cs 0 0 false]) else none

/-- What a slice or a string holds, cell by cell. -/
def cellsOf (h : AH) : AV → Option (List AV)
  | .nilS | .empS => some []
  | .slice c k off len esz => rdRow h c k off (len * esz)
  | .str s => some (s.map fun b => .int .u8 b.toNat)
  | _ => none

/-- append: of n elements, the cells vs. -/
def apRow (h : AH) (esz : Nat) (s : AV) (n : Nat) (vs : List AV) : Option (AV × AH) :=
  match s with
  | .nilS => if n = 0 then some (.nilS, h) else if n ≤ room then (newRow h vs).map fun (c, h') => (.slice c 0 0 n esz, h') else none
  | .empS => if n = 0 then some (.empS, h) else if n ≤ room then (newRow h vs).map fun (c, h') => (.slice c 0 0 n esz, h') else none
  | .slice c k off len e =>
    match h[c]? with
    | some (.row cs ver fl false) =>
      if e = esz ∧ k = ver ∧ off + len * esz = cs.length ∧ fl ≤ ver ∧ vs.all AV.sc = true ∧ len + n ≤ room then
        some (.slice c (ver + 1) off (len + n) esz, h.set c (.row (cs ++ vs) (ver + 1) fl false)) else none
    | _ => none
  | _ => none

/-! ### Keys of maps -/
def keyEq : AV → AV → Option Bool
  | .int k a, .int k' b => if k = k' then some (a == b) else none
  | .str a, .str b => some (a == b)
  | .bool a, .bool b => some (a == b)
  | _, _ => none
def keyIs : Nat → AV → Bool
  | 0, .int _ _ | 1, .str _ | 2, .bool _ => true
  | _, _ => false
def seqL : List Nat → List AV → List AV → Option Bool
  | [], [], [] => some true
  | kd :: kds, x :: xs, y :: ys => match keyIs kd x, keyEq x y, seqL kds xs ys with
    | true, some a, some b => some (a && b)
    | _, _, _ => none
  | _, _, _ => none

def mfind (k : AV) : List (AV × AV) → Option (Option AV)
  | [] => some none
  | (a, v) :: es => match keyEq k a with
    | some true => some (some v)
    | some false => mfind k es
    | none => none
def mput (k v : AV) : List (AV × AV) → List (AV × AV)
  | [] => [(k, v)]
  | (a, u) :: es => match keyEq k a with
    | some true => (k, v) :: es
    | _ => (a, u) :: mput k v es

/-! ### Operations -/
def two63 : Nat := 9223372036854775807
def binI (op : BinOp) (k : IntKind) (x y : Int) : Option AV :=
  match op with
  | .add => some (.int k (k.wrap (x + y)))
  | .sub => some (.int k (k.wrap (x - y)))
  | .mul => some (.int k (k.wrap (x * y)))
  | .quo => if y = 0 then none else some (.int k (k.wrap (x.tdiv y)))
  | .rem => if y = 0 then none else some (.int k (x.tmod y))
  | .and | .or | .xor | .andNot => some (.int k (bits op k x y))
  | .eql => some (.bool (x == y))
  | .neq => some (.bool (x != y))
  | .lss => some (.bool (decide (x < y)))
  | .leq => some (.bool (decide (x ≤ y)))
  | .gtr => some (.bool (decide (x > y)))
  | .geq => some (.bool (decide (x ≥ y)))
  | .shl | .shr => none
def binSh (op : BinOp) (k : IntKind) (x y : Int) : Option AV :=
  if y < 0 then none else match op with
  | .shl => some (.int k (k.wrap (x * 2 ^ (min y.toNat k.bits))))
  | .shr => some (.int k (x.fdiv (2 ^ (min y.toNat k.bits))))
  | _ => none
def binS (op : BinOp) (x y : List UInt8) : Option AV :=
  match op with
  | .add => if x.length + y.length ≤ two63 then some (.str (x ++ y)) else none
  | .eql => some (.bool (x == y))
  | .neq => some (.bool (!(x == y)))
  | .lss => some (.bool (Op.bytesLess x y))
  | .leq => some (.bool (Op.bytesLess x y || x == y))
  | .gtr => some (.bool (!(Op.bytesLess x y || x == y)))
  | .geq => some (.bool (!(Op.bytesLess x y)))
  | _ => none
def evBin (op : BinOp) : AV → AV → Option AV
  | .int k x, .int k' y => match op with
    | .shl | .shr => binSh op k x y
    | _ => if k = k' then binI op k x y else none
  | .str x, .str y => binS op x y
  | _, _ => none

def evNil : Nat → AV → Option Bool
  | 0, .nilS | 1, .nilP | 2, .nilM | 3, .nilF | 4, .nilI => some true
  | 0, .empS | 0, .slice .. | 1, .ptr .. | 2, .map _ | 3, .fn .. | 4, .ifc => some false
  | _, _ => none

def byte1 : AV → Option UInt8
  | .int .u8 n => some (UInt8.ofNat n.toNat)
  | _ => none
def bytesL : List AV → Option (List UInt8)
  | [] => some []
  | v :: vs => match byte1 v, bytesL vs with
    | some b, some bs => some (b :: bs)
    | _, _ => none

def fillP (cells : List AV) : List (Nat × Nat × AV) → Option (List AV)
  | [] => some cells
  | (off, n, v) :: rest => if v.cells.length = n ∧ off + n ≤ cells.length ∧ v.cells.all AV.sc = true then fillP (splice cells off v.cells) rest else none

def dec (s : List UInt8) (pos : Nat) : Int × Nat := let (c, w) := Utf8.decode ⟨s.toArray⟩ pos; (c, w)

def bnd (o : Option AV) (d top : Nat) : Option Nat :=
  match o with
  | none => some d
  | some (.int _ i) => if 0 ≤ i ∧ i ≤ top then some i.toNat else none
  | _ => none

abbrev CF := Nat → List AV → AH → Option (AV × AH)

def optv (ρ : Opd → AV) : Option Opd → Option AV
  | none => none
  | some x => some (ρ x)

def evOp (cf : CF) (ρ : Opd → AV) (h : AH) : AOp → Option (AV × AH)
  | .mov x => some (ρ x, h)
  | .pick c a b => match ρ c with
    | .bool t => some (if t then ρ a else ρ b, h)
    | _ => none
  | .bin op x y => (evBin op (ρ x) (ρ y)).map (·, h)
  | .beq neg x y => match ρ x, ρ y with
    | .bool a, .bool b => some (.bool (if neg then !(a == b) else a == b), h)
    | _, _ => none
  | .aeq neg kds x y => match ρ x, ρ y with
    | .agg xs, .agg ys => (seqL kds xs ys).map fun b => (.bool (if neg then !b else b), h)
    | _, _ => none
  | .niq neg kd x => (evNil kd (ρ x)).map fun b => (.bool (if neg then !b else b), h)
  | .un op x => match op, ρ x with
    | .neg, .int k n => some (.int k (k.wrap (0 - n)), h)
    | .not, .bool b => some (.bool (!b), h)
    | _, _ => none
  | .conv k x => match ρ x with
    | .int _ n => some (.int k (k.wrap n), h)
    | _ => none
  | .toB x => match ρ x with
    | .str s => if s.length ≤ room then (newRow h (s.map fun b => .int .u8 b.toNat)).map fun (c, h') => (.slice c 0 0 s.length 1, h') else none
    | _ => none
  | .ofB x => match ρ x with
    | .nilS | .empS => some (.str [], h)
    | .slice c k off len e => if e = 1 then match rdRow h c k off len with
        | some cs => (bytesL cs).map fun s => (.str s, h)
        | none => none
      else none
    | _ => none
  | .ofR x => match ρ x with
    | .int _ n => some (.str (Utf8.encode n).data.toList, h)
    | _ => none
  | .new zero => (newRow h zero).map fun (c, h') => (.ptr c 0 0 zero.length, h')
  | .box x => match ρ x with
    | .undef | .tup _ => none
    | v => (newRow h v.cells).map fun (c, h') => (.ptr c 0 0 v.cells.length, h')
  | .build zero parts => (fillP zero (parts.map fun (o, n, x) => (o, n, ρ x))).map fun cs => (.agg cs, h)
  | .lit esz len zero parts => match fillP zero (parts.map fun (o, n, x) => (o, n, ρ x)) with
    | some cs => (newRow h cs).map fun (c, h') => (.slice c 0 0 len esz, h')
    | none => none
  | .lit0 => some (.empS, h)
  | .load agg n a => match ρ a with
    | .ptr c k off m => if n ≤ m then match rdRow h c k off n with
        | some cs => (mkv agg cs).map (·, h)
        | none => none
      else none
    | _ => none
  | .store n a x => match ρ a with
    | .ptr c k off m => if n ≤ m ∧ (ρ x).cells.length = n then (wrRow h c k off (ρ x).cells).map fun h' => (.undef, h') else none
    | _ => none
  | .nck x => match ρ x with
    | .ptr c k off n => some (.ptr c k off n, h)
    | .fn f cs => some (.fn f cs, h)
    | _ => none
  | .faddr off n a => match ρ a with
    | .ptr c k o m => if off + n ≤ m then some (.ptr c k (o + off) n, h) else none
    | _ => none
  | .fld agg off n x => match ρ x with
    | .agg xs => if off + n ≤ xs.length then (mkv agg ((xs.drop off).take n)).map (·, h) else none
    | _ => none
  | .iaddr esz x i => match ρ x, ρ i with
    | .slice c k off len e, .int _ j => if e = esz ∧ 0 ≤ j ∧ j < len then some (.ptr c k (off + j.toNat * esz) esz, h) else none
    | _, _ => none
  | .iaddrA len esz a i => match ρ a, ρ i with
    | .ptr c k off m, .int _ j => if len * esz ≤ m ∧ 0 ≤ j ∧ j < len then some (.ptr c k (off + j.toNat * esz) esz, h) else none
    | _, _ => none
  | .idx agg len esz x i => match ρ x, ρ i with
    | .agg xs, .int _ j => if xs.length = len * esz ∧ 0 ≤ j ∧ j < len then (mkv agg ((xs.drop (j.toNat * esz)).take esz)).map (·, h) else none
    | _, _ => none
  | .idxS x i => match ρ x, ρ i with
    | .str s, .int _ j => if 0 ≤ j ∧ j < s.length then some (.int .u8 (s.getD j.toNat 0).toNat, h) else none
    | _, _ => none
  | .sub esz x lo hi => match ρ x with
    | .nilS => match bnd (optv ρ hi) 0 0 with
      | some b => match bnd (optv ρ lo) 0 b with
        | some _ => some (.nilS, h)
        | none => none
      | none => none
    | .empS => match bnd (optv ρ hi) 0 0 with
      | some b => match bnd (optv ρ lo) 0 b with
        | some _ => some (.empS, h)
        | none => none
      | none => none
    | .slice c k off len e => if e = esz then match bnd (optv ρ hi) len len with
        | some b => match bnd (optv ρ lo) 0 b with
          | some a => some (.slice c k (off + a * esz) (b - a) esz, h)
          | none => none
        | none => none
      else none
    | _ => none
  | .sub0 x hi mx => match ρ x, ρ hi, ρ mx with
    | .nilS, .int _ 0, .int _ 0 => some (.nilS, h)
    | .empS, .int _ 0, .int _ 0 => some (.empS, h)
    | .slice .., .int _ 0, .int _ 0 => some (.empS, h)
    | _, _, _ => none
  | .subS x lo hi => match ρ x with
    | .str s => match bnd (optv ρ hi) s.length s.length with
      | some b => match bnd (optv ρ lo) 0 b with
        | some a => some (.str ((s.drop a).take (b - a)), h)
        | none => none
      | none => none
    | _ => none
  | .subA len esz a lo hi => match ρ a with
    | .ptr c k off m => if len * esz ≤ m ∧ (rdRow h c k off (len * esz)).isSome = true then match bnd (optv ρ hi) len len with
        | some b => match bnd (optv ρ lo) 0 b with
          | some a => some (.slice c k (off + a * esz) (b - a) esz, h)
          | none => none
        | none => none
      else none
    | _ => none
  | .make esz zero len cap => match ρ len, ρ cap with
    | .int _ n, .int _ m => if 0 ≤ n ∧ n ≤ m ∧ m ≤ room ∧ zero.length = esz then
        (newRow h (List.replicate n.toNat zero).flatten).map fun (c, h') => (.slice c 0 0 n.toNat esz, h') else none
    | _, _ => none
  | .mkmap => some (.map h.length, h ++ [.map []])
  | .mkfn f caps => some (.fn f (caps.map ρ), h)
  | .look kd zero ok m k => if keyIs kd (ρ k) = true then match (match ρ m with
      | .nilM => some []
      | .map c => match h[c]? with
        | some (.map es) => some es
        | _ => none
      | _ => none) with
    | some es => match mfind (ρ k) es with
      | some (some v) => some (if ok then .tup [v, .bool true] else v, h)
      | some none => some (if ok then .tup [zero, .bool false] else zero, h)
      | none => none
    | none => none
    else none
  | .mset kd m k v => if keyIs kd (ρ k) = true then match ρ m with
    | .map c => match h[c]? with
      | some (.map es) => match mfind (ρ k) es with
        | some _ => match ρ v with
          | .undef => none
          | u => some (.undef, h.set c (.map (mput (ρ k) u es)))
        | none => none
      | _ => none
    | _ => none
    else none
  | .mlen m => match ρ m with
    | .nilM => some (.int .i64 0, h)
    | .map c => match h[c]? with
      | some (.map es) => some (.int .i64 es.length, h)
      | _ => none
    | _ => none
  | .rng x => match ρ x with
    | .str s => some (.iter h.length, h ++ [.iter s 0])
    | _ => none
  | .rngM x => match ρ x with
    | .map c => match h[c]? with
      | some (.map es) => some (.iter h.length, h ++ [.mit c es.length []])
      | _ => none
    | _ => none
  | .ent it => match ρ it with
    | .iter c => match h[c]? with
      | some (.mit cm since seen) => match h[cm]? with
        | some (.map es) => match seen.getLast? with
          | some i => if es.length = since then (es[i]?).map fun e => (.tup [e.1, e.2], h) else none
          | none => none
        | _ => none
      | _ => none
    | _ => none
  | .nxt it => match ρ it with
    | .iter c => match h[c]? with
      | some (.iter s pos) => if pos < s.length then
          some (.tup [.bool true, .int .i64 pos, .int .i32 (dec s pos).1], h.set c (.iter s (pos + (dec s pos).2)))
        else some (.tup [.bool false], h)
      | _ => none
    | _ => none
  | .prj i x => match ρ x with
    | .tup vs => (vs[i]?).map (·, h)
    | _ => none
  | .call f xs => cf f (xs.map ρ) h
  | .callv x xs => match ρ x with
    | .fn f cap => cf f (xs.map ρ ++ cap) h
    | _ => none
  | .lenS x => match ρ x with
    | .str s => some (.int .i64 s.length, h)
    | _ => none
  | .lenV x => match ρ x with
    | .nilS | .empS => some (.int .i64 0, h)
    | .slice _ _ _ len _ => some (.int .i64 len, h)
    | _ => none
  | .app esz s x => match ρ x with
    | .nilS | .empS => apRow h esz (ρ s) 0 []
    | .slice c k off len e => if e = esz then match rdRow h c k off (len * esz) with
        | some vs => apRow h esz (ρ s) len vs
        | none => none
      else none
    | _ => none
  | .appS s x => match ρ x with
    | .str b => apRow h 1 (ρ s) b.length (b.map fun b => .int .u8 b.toNat)
    | _ => none
  | .copy esz d s => match ρ d, ρ s with
    | .slice c k off len e, .slice c' k' off' len' e' => if e = esz ∧ e' = esz then
        if min len' len = 0 then some (.int .i64 0, h) else match rdRow h c' k' off' (min len' len * esz) with
        | some vs => (wrRow h c k off vs).map fun h' => (.int .i64 ((min len' len : Nat) : Int), h')
        | none => none
      else none
    | _, _ => none
  | .clr zero x => match ρ x with
    | .nilS | .empS => some (.tup [], h)
    | .slice c k off len e => if e = zero.length then
        if len = 0 then some (.tup [], h) else (wrRow h c k off (List.replicate len zero).flatten).map fun h' => (.tup [], h')
      else none
    | _ => none
  | .mmx mx x y => match ρ x, ρ y with
    | .int k a, .int k' b => if k = k' then some (.int k (if mx then (if b > a then b else a) else (if b < a then b else a)), h) else none
    | .str a, .str b => if mx then none else some (.str (if (Op.bytesLess a b || a == b) then a else b), h)
    | _, _ => none

def env (e : Env) : Opd → AV
  | .t n => e.get n
  | .c v => v

def put (e : Env) (d : Option Nat) (v : AV) : Env :=
  match d with
  | some t => e.set t v
  | none => e

def evI (cf : CF) (i : I) (e : Env) (h : AH) : Option (Env × AH) :=
  match i.grd with
  | none => (evOp cf (env e) h i.op).map fun (v, h') => (put e i.dst v, h')
  | some (t, want) => match e.get t with
    | .bool b => if b = want then (evOp cf (env e) h i.op).map fun (v, h') => (put e i.dst v, h') else some (put e i.dst (.tup []), h)
    | .tup [] => some (put e i.dst (.tup []), h)
    | _ => none

def evR (cf : CF) : List I → Env → AH → Option (Env × AH)
  | [], e, h => some (e, h)
  | i :: is, e, h => match evI cf i e h with
    | some (e', h') => evR cf is e' h'
    | none => none

inductive X where
  | normal
  | exit (id : Nat)
  | ret

/-- The state before operation i of a region. -/
def stateAt (cf : CF) (is : List I) (i : Nat) (e : Env) (h : AH) : Option (Env × AH) := evR cf (is.take i) e h

def noCall : CF := fun _ _ _ => none

/-- What operation j reads does not turn by operation i. -/
def Stable (cf : CF) (is : List I) (e : Env) (h : AH) (j i : Nat) : Prop :=
  ∀ o e1 h1 e2 h2 e3 h3, is[j]? = some o → stateAt cf is j e h = some (e1, h1) → stateAt cf is i e h = some (e2, h2) → stateAt cf is (i + 1) e h = some (e3, h3) →
    (evOp noCall (env e1) h2 o.op).map (·.1) = (evOp noCall (env e1) h3 o.op).map (·.1)

open Classical in
noncomputable def evDraw (cf : CF) (is : List I) (ps : List (Nat × Nat)) (e : Env) (h : AH) : Option (Env × AH) :=
  if ∀ p ∈ ps, Stable cf is e h p.1 p.2 then evR cf is e h else none

def evLoop (step : Env → AH → Option (X × Env × AH)) : Nat → Env → AH → Option (X × Env × AH)
  | 0, _, _ => none
  | n + 1, e, h => match step e h with
    | some (.normal, e', h') => evLoop step n e' h'
    | r => r

noncomputable def evC (cf : CF) (n : Nat) : C → Env → AH → Option (X × Env × AH)
  | .skip, e, h => some (.normal, e, h)
  | .reg is, e, h => (evR cf is e h).map fun (e', h') => (.normal, e', h')
  | .drw is ps, e, h => (evDraw cf is ps e h).map fun (e', h') => (.normal, e', h')
  | .kl ts c, e, h => evC cf n c (e.dels ts) h
  | .seq a b, e, h => match evC cf n a e h with
    | some (.normal, e', h') => evC cf n b e' h'
    | r => r
  | .cond x a b, e, h => match env e x with
    | .bool t => if t then evC cf n a e h else evC cf n b e h
    | _ => none
  | .blk id c, e, h => match evC cf n c e h with
    | some (.exit id', e', h') => if id' = id then some (.normal, e', h') else some (.exit id', e', h')
    | r => r
  | .loop c, e, h => evLoop (evC cf n c) n e h
  | .exit id, e, h => some (.exit id, e, h)
  | .ret, e, h => some (.ret, e, h)
  | .bad, _, _ => none

def res1 (e : Env) (h : AH) : Res → Option AV
  | .tmp t => some (e.get t)
  | .cell agg n t => match e.get t with
    | .ptr c k off m => if n ≤ m then match rdRow h c k off n with
        | some cs => mkv agg cs
        | none => none
      else none
    | _ => none
def resL (e : Env) (h : AH) : List Res → Option (List AV)
  | [] => some []
  | r :: rs => match res1 e h r, resL e h rs with
    | some v, some vs => some (v :: vs)
    | _, _ => none
def resV (e : Env) (h : AH) (rs : List Res) : Option AV :=
  match resL e h rs with
  | some [v] => some v
  | some vs => some (.tup vs)
  | none => none

abbrev Ext := Nat → Option (CF → List AV → AH → Option (AV × AH))

noncomputable def evF (T : Nat → Option FI) (E : Ext) : Nat → CF
  | 0 => fun _ _ _ => none
  | n + 1 => fun f xs h => match E f with
    | some F => F (evF T E n) xs h
    | none => match T f with
      | some fi => match evC (evF T E n) n fi.body (Env.init 0 xs) h with
        | some (.normal, e, h') => (resV e h' fi.res).map (·, h')
        | some (.ret, e, h') => (resV e h' fi.res).map (·, h')
        | _ => none
      | none => none

end Go.Proofs.YtcflenomogpdbaaDoor.Ab

/- BODIES of functions as compact literals, written by gen.py. -/
namespace Go.Proofs.YtcflenomogpdbaaDoor.Ab
open Go

/-- laws.FnExactLiveMoves -/
def fi224 : FI := ⟨.seq (.reg [⟨some 2, .mov (.c (.bool false)), none⟩]) (.kl [2] (.seq (.seq (.reg [⟨some 11, .mov (.t 0), none⟩, ⟨some 12, .lenS (.t 11), none⟩, ⟨some 13, .bin .gtr (.t 12) (.c (.int .i64 1048576)), none⟩]) (.kl [11, 12] (.cond (.t 13) (.kl [0, 13] (.seq (.reg [⟨some 2, .mov (.c (.bool true)), none⟩]) (.ret))) (.skip)))) (.kl [13] (.seq (.reg [⟨some 15, .mov (.t 0), none⟩, ⟨some 16, .call 225 [.t 15], none⟩, ⟨some 14, .mov (.t 16), none⟩, ⟨some 17, .prj 0 (.t 14), none⟩, ⟨some 18, .prj 1 (.t 14), none⟩, ⟨some 3, .mov (.t 17), none⟩, ⟨some 4, .mov (.t 18), none⟩]) (.kl [14, 15, 16, 17, 18] (.seq (.reg [⟨some 20, .mov (.t 0), none⟩, ⟨some 21, .call 226 [.t 20], none⟩, ⟨some 19, .mov (.t 21), none⟩, ⟨some 22, .prj 0 (.t 19), none⟩, ⟨some 23, .prj 1 (.t 19), none⟩, ⟨some 5, .mov (.t 22), none⟩, ⟨some 6, .mov (.t 23), none⟩]) (.kl [19, 20, 21, 22, 23] (.seq (.seq (.reg [⟨some 24, .mov (.t 5), none⟩, ⟨some 25, .mov (.t 3), none⟩, ⟨some 26, .call 227 [.t 24, .t 25], none⟩, ⟨some 27, .un .not (.t 26), none⟩, ⟨some 28, .mov (.t 27), none⟩, ⟨some 29, .mov (.t 6), some (28, false)⟩, ⟨some 30, .mov (.t 4), some (28, false)⟩, ⟨some 31, .beq true (.t 29) (.t 30), some (28, false)⟩, ⟨some 32, .pick (.t 28) (.c (.bool true)) (.t 31), none⟩]) (.kl [6, 24, 25, 26, 27, 28, 29, 30, 31] (.cond (.t 32) (.kl [0, 3, 4, 5, 32] (.seq (.reg [⟨some 2, .mov (.c (.bool false)), none⟩]) (.ret))) (.skip)))) (.kl [32] (.seq (.reg [⟨some 7, .mov (.c (.int .i64 1)), none⟩]) (.seq (.reg [⟨some 33, .mov (.t 5), none⟩, ⟨some 34, .mov (.t 7), none⟩, ⟨some 35, .call 228 [.t 33, .t 34], none⟩, ⟨some 7, .mov (.t 35), none⟩]) (.kl [33, 34, 35] (.seq (.reg [⟨some 8, .mov (.c (.int .i64 1)), none⟩]) (.seq (.reg [⟨some 36, .mov (.t 5), none⟩, ⟨some 37, .mov (.t 8), none⟩, ⟨some 38, .call 229 [.t 36, .t 37], none⟩, ⟨some 8, .mov (.t 38), none⟩]) (.kl [36, 37, 38] (.seq (.seq (.reg [⟨some 39, .mov (.t 8), none⟩, ⟨some 40, .bin .lss (.t 39) (.c (.int .i64 0)), none⟩]) (.kl [39] (.cond (.t 40) (.kl [0, 3, 4, 5, 7, 8, 40] (.seq (.reg [⟨some 2, .mov (.c (.bool false)), none⟩]) (.ret))) (.skip)))) (.kl [40] (.seq (.seq (.reg [⟨some 41, .mov (.t 8), none⟩, ⟨some 42, .mov (.t 7), none⟩, ⟨some 43, .bin .neq (.t 41) (.t 42), none⟩]) (.kl [8, 41, 42] (.cond (.t 43) (.kl [0, 3, 4, 5, 7, 43] (.seq (.reg [⟨some 2, .mov (.c (.bool false)), none⟩]) (.ret))) (.skip)))) (.kl [43] (.seq (.reg [⟨some 45, .mov (.t 0), none⟩, ⟨some 46, .call 226 [.t 45], none⟩, ⟨some 44, .mov (.t 46), none⟩, ⟨some 47, .prj 0 (.t 44), none⟩, ⟨some 48, .prj 1 (.t 44), none⟩, ⟨some 9, .mov (.t 47), none⟩, ⟨some 10, .mov (.t 48), none⟩]) (.kl [0, 44, 45, 46, 47, 48] (.seq (.seq (.reg [⟨some 49, .mov (.t 9), none⟩, ⟨some 50, .mov (.t 3), none⟩, ⟨some 51, .call 227 [.t 49, .t 50], none⟩, ⟨some 52, .un .not (.t 51), none⟩, ⟨some 53, .mov (.t 52), none⟩, ⟨some 54, .mov (.t 10), some (53, false)⟩, ⟨some 55, .mov (.t 4), some (53, false)⟩, ⟨some 56, .beq true (.t 54) (.t 55), some (53, false)⟩, ⟨some 57, .pick (.t 53) (.c (.bool true)) (.t 56), none⟩]) (.kl [3, 4, 9, 10, 49, 50, 51, 52, 53, 54, 55, 56] (.cond (.t 57) (.kl [5, 7, 57] (.seq (.reg [⟨some 2, .mov (.c (.bool false)), none⟩]) (.ret))) (.skip)))) (.kl [57] (.seq (.reg [⟨some 8, .mov (.c (.int .i64 1)), none⟩]) (.seq (.reg [⟨some 58, .mov (.t 5), none⟩, ⟨some 59, .mov (.t 8), none⟩, ⟨some 60, .call 229 [.t 58, .t 59], none⟩, ⟨some 8, .mov (.t 60), none⟩]) (.kl [5, 58, 59, 60] (.seq (.seq (.reg [⟨some 61, .mov (.t 8), none⟩, ⟨some 62, .bin .lss (.t 61) (.c (.int .i64 0)), none⟩]) (.kl [61] (.cond (.t 62) (.kl [7, 8, 62] (.seq (.reg [⟨some 2, .mov (.c (.bool false)), none⟩]) (.ret))) (.skip)))) (.kl [62] (.seq (.seq (.reg [⟨some 63, .mov (.t 8), none⟩, ⟨some 64, .mov (.t 7), none⟩, ⟨some 65, .bin .neq (.t 63) (.t 64), none⟩]) (.kl [7, 8, 63, 64] (.cond (.t 65) (.kl [65] (.seq (.reg [⟨some 2, .mov (.c (.bool false)), none⟩]) (.ret))) (.skip)))) (.kl [65] (.seq (.reg [⟨some 2, .mov (.c (.bool true)), none⟩]) (.ret)))))))))))))))))))))))))))))))), [.tmp 2]⟩
/-- laws.FnExactNearestLine -/
def fi294 : FI := ⟨.seq (.reg [⟨some 2, .mov (.c (.bool false)), none⟩]) (.kl [2] (.seq (.seq (.reg [⟨some 7, .mov (.t 0), none⟩, ⟨some 8, .lenS (.t 7), none⟩, ⟨some 9, .bin .gtr (.t 8) (.c (.int .i64 1048576)), none⟩]) (.kl [7, 8] (.cond (.t 9) (.kl [0, 9] (.seq (.reg [⟨some 2, .mov (.c (.bool true)), none⟩]) (.ret))) (.skip)))) (.kl [9] (.seq (.reg [⟨some 11, .mov (.t 0), none⟩, ⟨some 12, .call 295 [.t 11], none⟩, ⟨some 10, .mov (.t 12), none⟩, ⟨some 13, .prj 0 (.t 10), none⟩, ⟨some 14, .prj 1 (.t 10), none⟩, ⟨some 3, .mov (.t 13), none⟩, ⟨some 4, .mov (.t 14), none⟩]) (.kl [10, 11, 12, 13, 14] (.seq (.reg [⟨some 16, .mov (.t 0), none⟩, ⟨some 17, .call 296 [.t 16], none⟩, ⟨some 15, .mov (.t 17), none⟩, ⟨some 18, .prj 0 (.t 15), none⟩, ⟨some 19, .prj 1 (.t 15), none⟩, ⟨some 5, .mov (.t 18), none⟩, ⟨some 6, .mov (.t 19), none⟩]) (.kl [0, 15, 16, 17, 18, 19] (.seq (.seq (.reg [⟨some 20, .mov (.t 5), none⟩, ⟨some 21, .mov (.t 3), none⟩, ⟨some 22, .bin .neq (.t 20) (.t 21), none⟩, ⟨some 23, .mov (.t 22), none⟩, ⟨some 24, .mov (.t 6), some (23, false)⟩, ⟨some 25, .mov (.t 4), some (23, false)⟩, ⟨some 26, .beq true (.t 24) (.t 25), some (23, false)⟩, ⟨some 27, .pick (.t 23) (.c (.bool true)) (.t 26), none⟩]) (.kl [3, 4, 5, 6, 20, 21, 22, 23, 24, 25, 26] (.cond (.t 27) (.kl [27] (.seq (.reg [⟨some 2, .mov (.c (.bool false)), none⟩]) (.ret))) (.skip)))) (.kl [27] (.seq (.reg [⟨some 2, .mov (.c (.bool true)), none⟩]) (.ret))))))))))), [.tmp 2]⟩
/-- spec.LiveMoves -/
def fi225 : FI := ⟨.seq (.reg [⟨some 2, .mov (.c (.nilS)), none⟩, ⟨some 3, .mov (.c (.bool false)), none⟩]) (.kl [2, 3] (.seq (.reg [⟨some 5, .build [.nilS, .nilS] [], none⟩, ⟨some 6, .box (.t 5), none⟩, ⟨some 4, .mov (.t 6), none⟩]) (.kl [5, 6] (.seq (.seq (.reg [⟨some 7, .mov (.t 0), none⟩, ⟨some 8, .call 233 [.t 7], none⟩, ⟨some 9, .un .not (.t 8), none⟩, ⟨some 10, .mov (.t 9), none⟩, ⟨some 11, .mov (.t 4), some (10, false)⟩, ⟨some 12, .mov (.t 0), some (10, false)⟩, ⟨some 13, .call 234 [.t 11, .t 12], some (10, false)⟩, ⟨some 14, .un .not (.t 13), some (10, false)⟩, ⟨some 15, .pick (.t 10) (.c (.bool true)) (.t 14), none⟩]) (.kl [7, 8, 9, 10, 11, 12, 13, 14] (.cond (.t 15) (.kl [0, 4, 15] (.seq (.reg [⟨some 2, .mov (.c (.nilS)), none⟩, ⟨some 3, .mov (.c (.bool false)), none⟩]) (.ret))) (.skip)))) (.kl [15] (.seq (.reg [⟨some 16, .mov (.t 4), none⟩, ⟨some 17, .mov (.t 0), none⟩, ⟨some 18, .call 235 [.t 16, .t 17], none⟩, ⟨some 2, .mov (.t 18), none⟩, ⟨some 3, .mov (.c (.bool true)), none⟩]) (.kl [0, 4, 16, 17, 18] (.ret)))))))), [.tmp 2, .tmp 3]⟩
/-- impl.LiveMoves -/
def fi226 : FI := ⟨.seq (.reg [⟨some 2, .mov (.c (.nilS)), none⟩, ⟨some 3, .mov (.c (.bool false)), none⟩]) (.kl [2, 3] (.seq (.seq (.reg [⟨some 7, .mov (.t 0), none⟩, ⟨some 8, .call 236 [.t 7], none⟩, ⟨some 6, .mov (.t 8), none⟩, ⟨some 9, .prj 0 (.t 6), none⟩, ⟨some 10, .prj 1 (.t 6), none⟩, ⟨some 4, .mov (.t 9), none⟩, ⟨some 5, .mov (.t 10), none⟩]) (.kl [5, 6, 7, 8, 9, 10] (.seq (.reg [⟨some 11, .mov (.t 4), none⟩, ⟨some 12, .un .not (.t 11), none⟩]) (.kl [4, 11] (.cond (.t 12) (.kl [0, 12] (.seq (.reg [⟨some 2, .mov (.c (.nilS)), none⟩, ⟨some 3, .mov (.c (.bool false)), none⟩]) (.ret))) (.skip)))))) (.kl [12] (.seq (.reg [⟨some 13, .mov (.t 0), none⟩, ⟨some 14, .call 237 [.t 13], none⟩, ⟨some 15, .call 238 [.t 14], none⟩, ⟨some 16, .mov (.t 0), none⟩, ⟨some 17, .call 239 [.t 15, .t 16], none⟩, ⟨some 2, .mov (.t 17), none⟩, ⟨some 3, .mov (.c (.bool true)), none⟩]) (.kl [0, 13, 14, 15, 16, 17] (.ret)))))), [.tmp 2, .tmp 3]⟩
-- lp227_0 HEAD [0, 1, 5] | exit 0: [] | ret: [4]
/-- laws.eqMoveS -/
def lb227_0 : C := .kl [15, 16] (.seq (.seq (.reg [⟨some 11, .mov (.t 5), none⟩, ⟨some 12, .mov (.t 0), none⟩, ⟨some 13, .lenV (.t 12), none⟩, ⟨some 14, .bin .lss (.t 11) (.t 13), none⟩]) (.kl [11, 12, 13] (.cond (.t 14) (.skip) (.kl [0, 1, 5, 14] (.exit 0))))) (.kl [14] (.seq (.blk 1 (.seq (.drw [⟨some 17, .mov (.t 0), none⟩, ⟨some 18, .mov (.t 5), none⟩, ⟨some 19, .iaddr 2 (.t 17) (.t 18), none⟩, ⟨some 20, .load true 2 (.t 19), none⟩, ⟨some 21, .mov (.t 1), none⟩, ⟨some 22, .mov (.t 5), none⟩, ⟨some 23, .iaddr 2 (.t 21) (.t 22), none⟩, ⟨some 24, .load true 2 (.t 23), none⟩, ⟨some 25, .call 240 [.t 20, .t 24], none⟩, ⟨some 26, .un .not (.t 25), none⟩] []) (.kl [17, 18, 19, 20, 21, 22, 23, 24, 25] (.cond (.t 26) (.kl [0, 1, 5, 26] (.seq (.reg [⟨some 4, .mov (.c (.bool false)), none⟩]) (.ret))) (.skip))))) (.kl [26] (.reg [⟨some 15, .mov (.t 5), none⟩, ⟨some 16, .bin .add (.t 15) (.c (.int .i64 1)), none⟩, ⟨some 5, .mov (.t 16), none⟩])))))
def lp227_0 : C := lb227_0
def fi227 : FI := ⟨.seq (.reg [⟨some 4, .mov (.c (.bool false)), none⟩]) (.kl [4] (.seq (.seq (.reg [⟨some 6, .mov (.t 0), none⟩, ⟨some 7, .lenV (.t 6), none⟩, ⟨some 8, .mov (.t 1), none⟩, ⟨some 9, .lenV (.t 8), none⟩, ⟨some 10, .bin .neq (.t 7) (.t 9), none⟩]) (.kl [6, 7, 8, 9] (.cond (.t 10) (.kl [0, 1, 10] (.seq (.reg [⟨some 4, .mov (.c (.bool false)), none⟩]) (.ret))) (.skip)))) (.kl [10] (.seq (.seq (.reg [⟨some 5, .mov (.c (.int .i64 0)), none⟩]) (.blk 0 (.loop lp227_0))) (.seq (.reg [⟨some 4, .mov (.c (.bool true)), none⟩]) (.ret)))))), [.tmp 4]⟩
-- lp228_0 HEAD [0, 1, 5] | exit 0: [1]
/-- laws.markMoveS -/
def lb228_0 : C := .kl [10, 11] (.seq (.seq (.reg [⟨some 6, .mov (.t 5), none⟩, ⟨some 7, .mov (.t 0), none⟩, ⟨some 8, .lenV (.t 7), none⟩, ⟨some 9, .bin .lss (.t 6) (.t 8), none⟩]) (.kl [6, 7, 8] (.cond (.t 9) (.skip) (.kl [0, 5, 9] (.exit 0))))) (.kl [9] (.seq (.blk 1 (.seq (.reg [⟨some 12, .mov (.t 0), none⟩, ⟨some 13, .mov (.t 5), none⟩, ⟨some 14, .mov (.t 1), none⟩, ⟨some 15, .iaddr 2 (.t 12) (.t 13), none⟩, ⟨some 16, .faddr 0 1 (.t 15), none⟩, ⟨none, .store 1 (.t 16) (.t 14), none⟩]) (.kl [12, 13, 14, 15, 16] (.seq (.reg [⟨some 17, .mov (.t 1), none⟩, ⟨some 18, .bin .add (.t 17) (.c (.int .i64 1)), none⟩, ⟨some 1, .mov (.t 18), none⟩]) (.kl [17, 18] (.seq (.reg [⟨some 19, .mov (.t 0), none⟩, ⟨some 20, .mov (.t 5), none⟩, ⟨some 21, .mov (.t 1), none⟩, ⟨some 22, .iaddr 2 (.t 19) (.t 20), none⟩, ⟨some 23, .faddr 1 1 (.t 22), none⟩, ⟨none, .store 1 (.t 23) (.t 21), none⟩]) (.kl [19, 20, 21, 22, 23] (.reg [⟨some 24, .mov (.t 1), none⟩, ⟨some 25, .bin .add (.t 24) (.c (.int .i64 1)), none⟩, ⟨some 1, .mov (.t 25), none⟩])))))))) (.kl [24, 25] (.reg [⟨some 10, .mov (.t 5), none⟩, ⟨some 11, .bin .add (.t 10) (.c (.int .i64 1)), none⟩, ⟨some 5, .mov (.t 11), none⟩])))))
def lp228_0 : C := lb228_0
def fi228 : FI := ⟨.seq (.reg [⟨some 4, .mov (.c (.int .i64 0)), none⟩]) (.kl [4] (.seq (.seq (.reg [⟨some 5, .mov (.c (.int .i64 0)), none⟩]) (.blk 0 (.loop lp228_0))) (.seq (.reg [⟨some 26, .mov (.t 1), none⟩, ⟨some 4, .mov (.t 26), none⟩]) (.kl [1, 26] (.ret))))), [.tmp 4]⟩
-- lp229_0 HEAD [0, 1, 5] | exit 0: [1] | ret: [4]
/-- laws.heldMoveS -/
def lb229_0 : C := .kl [10, 11] (.seq (.seq (.reg [⟨some 6, .mov (.t 5), none⟩, ⟨some 7, .mov (.t 0), none⟩, ⟨some 8, .lenV (.t 7), none⟩, ⟨some 9, .bin .lss (.t 6) (.t 8), none⟩]) (.kl [6, 7, 8] (.cond (.t 9) (.skip) (.kl [0, 5, 9] (.exit 0))))) (.kl [9] (.seq (.blk 1 (.seq (.seq (.reg [⟨some 12, .mov (.t 0), none⟩, ⟨some 13, .mov (.t 5), none⟩, ⟨some 14, .iaddr 2 (.t 12) (.t 13), none⟩, ⟨some 15, .faddr 0 1 (.t 14), none⟩, ⟨some 16, .load false 1 (.t 15), none⟩, ⟨some 17, .mov (.t 1), none⟩, ⟨some 18, .bin .neq (.t 16) (.t 17), none⟩]) (.kl [12, 13, 14, 15, 16, 17] (.cond (.t 18) (.kl [0, 1, 5, 18] (.seq (.reg [⟨some 4, .mov (.c (.int .i64 (-1))), none⟩]) (.ret))) (.skip)))) (.kl [18] (.seq (.reg [⟨some 19, .mov (.t 1), none⟩, ⟨some 20, .bin .add (.t 19) (.c (.int .i64 1)), none⟩, ⟨some 1, .mov (.t 20), none⟩]) (.kl [19, 20] (.seq (.seq (.reg [⟨some 21, .mov (.t 0), none⟩, ⟨some 22, .mov (.t 5), none⟩, ⟨some 23, .iaddr 2 (.t 21) (.t 22), none⟩, ⟨some 24, .faddr 1 1 (.t 23), none⟩, ⟨some 25, .load false 1 (.t 24), none⟩, ⟨some 26, .mov (.t 1), none⟩, ⟨some 27, .bin .neq (.t 25) (.t 26), none⟩]) (.kl [21, 22, 23, 24, 25, 26] (.cond (.t 27) (.kl [0, 1, 5, 27] (.seq (.reg [⟨some 4, .mov (.c (.int .i64 (-1))), none⟩]) (.ret))) (.skip)))) (.kl [27] (.reg [⟨some 28, .mov (.t 1), none⟩, ⟨some 29, .bin .add (.t 28) (.c (.int .i64 1)), none⟩, ⟨some 1, .mov (.t 29), none⟩])))))))) (.kl [28, 29] (.reg [⟨some 10, .mov (.t 5), none⟩, ⟨some 11, .bin .add (.t 10) (.c (.int .i64 1)), none⟩, ⟨some 5, .mov (.t 11), none⟩])))))
def lp229_0 : C := lb229_0
def fi229 : FI := ⟨.seq (.reg [⟨some 4, .mov (.c (.int .i64 0)), none⟩]) (.kl [4] (.seq (.seq (.reg [⟨some 5, .mov (.c (.int .i64 0)), none⟩]) (.blk 0 (.loop lp229_0))) (.seq (.reg [⟨some 30, .mov (.t 1), none⟩, ⟨some 4, .mov (.t 30), none⟩]) (.kl [1, 30] (.ret))))), [.tmp 4]⟩
-- lp295_0 HEAD [4, 12, 13, 14] | exit 0: [4]
/-- spec.NearestLine -/
def lb295_0 : C := .kl [36] (.seq (.reg [⟨some 15, .bin .lss (.t 14) (.t 13), none⟩]) (.seq (.cond (.t 15) (.skip) (.kl [12, 13, 14, 15] (.exit 0))) (.kl [15] (.seq (.blk 1 (.seq (.reg [⟨some 16, .iaddr 1 (.t 12) (.t 14), none⟩, ⟨some 17, .load false 1 (.t 16), none⟩, ⟨some 6, .mov (.t 17), none⟩]) (.kl [16, 17] (.seq (.reg [⟨some 18, .mov (.t 6), none⟩, ⟨some 19, .call 297 [.t 18], none⟩, ⟨some 20, .mov (.t 4), none⟩, ⟨some 21, .call 297 [.t 20], none⟩, ⟨some 22, .bin .lss (.t 19) (.t 21), none⟩, ⟨some 23, .mov (.t 22), none⟩, ⟨some 24, .mov (.t 6), some (23, false)⟩, ⟨some 25, .call 297 [.t 24], some (23, false)⟩, ⟨some 26, .mov (.t 4), some (23, false)⟩, ⟨some 27, .call 297 [.t 26], some (23, false)⟩, ⟨some 28, .bin .eql (.t 25) (.t 27), some (23, false)⟩, ⟨some 29, .mov (.t 28), some (23, false)⟩, ⟨some 30, .mov (.t 6), some (29, true)⟩, ⟨some 31, .mov (.t 4), some (29, true)⟩, ⟨some 32, .bin .lss (.t 30) (.t 31), some (29, true)⟩, ⟨some 33, .pick (.t 29) (.t 32) (.c (.bool false)), some (23, false)⟩, ⟨some 34, .pick (.t 23) (.c (.bool true)) (.t 33), none⟩]) (.kl [18, 19, 20, 21, 22, 23, 24, 25, 26, 27, 28, 29, 30, 31, 32, 33] (.cond (.t 34) (.kl [4, 34] (.reg [⟨some 35, .mov (.t 6), none⟩, ⟨some 4, .mov (.t 35), none⟩])) (.skip))))))) (.kl [6, 34, 35] (.reg [⟨some 36, .bin .add (.t 14) (.c (.int .i64 1)), none⟩, ⟨some 14, .mov (.t 36), none⟩]))))))
def lp295_0 : C := lb295_0
def fi295 : FI := ⟨.seq (.reg [⟨some 2, .mov (.c (.str [])), none⟩, ⟨some 3, .mov (.c (.bool false)), none⟩]) (.kl [2, 3] (.seq (.seq (.reg [⟨some 7, .mov (.t 0), none⟩, ⟨some 8, .call 58 [.t 7], none⟩, ⟨some 9, .un .not (.t 8), none⟩]) (.kl [7, 8] (.cond (.t 9) (.kl [0, 9] (.seq (.reg [⟨some 2, .mov (.c (.str [])), none⟩, ⟨some 3, .mov (.c (.bool false)), none⟩]) (.ret))) (.skip)))) (.kl [9] (.seq (.reg [⟨some 10, .mov (.t 0), none⟩, ⟨some 4, .mov (.t 10), none⟩]) (.kl [10] (.seq (.seq (.reg [⟨some 11, .mov (.t 0), none⟩, ⟨some 12, .call 268 [.t 11], none⟩, ⟨some 13, .lenV (.t 12), none⟩, ⟨some 14, .mov (.c (.int .i64 0)), none⟩]) (.kl [0, 11] (.blk 0 (.loop lp295_0)))) (.seq (.reg [⟨some 37, .mov (.t 4), none⟩, ⟨some 2, .mov (.t 37), none⟩, ⟨some 3, .mov (.c (.bool true)), none⟩]) (.kl [4, 37] (.ret))))))))), [.tmp 2, .tmp 3]⟩
/-- impl.NearestLine -/
def fi296 : FI := ⟨.seq (.reg [⟨some 2, .mov (.c (.str [])), none⟩, ⟨some 3, .mov (.c (.bool false)), none⟩]) (.kl [2, 3] (.seq (.seq (.reg [⟨some 4, .mov (.t 0), none⟩, ⟨some 5, .call 56 [.t 4], none⟩, ⟨some 6, .un .not (.t 5), none⟩]) (.kl [4, 5] (.cond (.t 6) (.kl [0, 6] (.seq (.reg [⟨some 2, .mov (.c (.str [])), none⟩, ⟨some 3, .mov (.c (.bool false)), none⟩]) (.ret))) (.skip)))) (.kl [6] (.seq (.reg [⟨some 7, .mov (.t 0), none⟩, ⟨some 8, .call 273 [.t 7], none⟩, ⟨some 9, .call 298 [.t 8], none⟩, ⟨some 10, .call 299 [.t 9], none⟩, ⟨some 11, .call 300 [.t 10, .c (.fn 301 [])], none⟩, ⟨some 2, .mov (.t 11), none⟩, ⟨some 3, .mov (.c (.bool true)), none⟩]) (.kl [0, 7, 8, 9, 10, 11] (.ret)))))), [.tmp 2, .tmp 3]⟩
/-- spec.swLine -/
def fi233 : FI := ⟨.seq (.reg [⟨some 2, .mov (.c (.bool false)), none⟩]) (.kl [2] (.seq (.reg [⟨some 3, .mov (.t 0), none⟩, ⟨some 4, .call 104 [.t 3], none⟩, ⟨some 5, .mov (.t 4), none⟩, ⟨some 6, .mov (.t 0), some (5, true)⟩, ⟨some 7, .lenS (.t 6), some (5, true)⟩, ⟨some 8, .bin .leq (.t 7) (.c (.int .i64 8)), some (5, true)⟩, ⟨some 9, .pick (.t 5) (.t 8) (.c (.bool false)), none⟩, ⟨some 2, .mov (.t 9), none⟩]) (.kl [0, 3, 4, 5, 6, 7, 8, 9] (.ret)))), [.tmp 2]⟩
-- lp234_0 HEAD [1, 14, 15, 16] | exit 0: [] | ret: [4]
/-- spec.swIsLive -/
def lb234_0 : C := .kl [23] (.seq (.reg [⟨some 17, .bin .lss (.t 16) (.t 15), none⟩]) (.seq (.cond (.t 17) (.skip) (.kl [1, 14, 15, 16, 17] (.exit 0))) (.kl [17] (.seq (.blk 1 (.seq (.reg [⟨some 18, .iaddr 1 (.t 14) (.t 16), none⟩, ⟨some 19, .load false 1 (.t 18), none⟩, ⟨some 6, .mov (.t 19), none⟩]) (.kl [18, 19] (.seq (.reg [⟨some 20, .mov (.t 6), none⟩, ⟨some 21, .mov (.t 1), none⟩, ⟨some 22, .call 243 [.t 20, .t 21], none⟩]) (.kl [6, 20, 21] (.cond (.t 22) (.kl [1, 14, 15, 16, 22] (.seq (.reg [⟨some 4, .mov (.c (.bool true)), none⟩]) (.ret))) (.skip))))))) (.kl [22] (.reg [⟨some 23, .bin .add (.t 16) (.c (.int .i64 1)), none⟩, ⟨some 16, .mov (.t 23), none⟩]))))))
def lp234_0 : C := lb234_0
def fi234 : FI := ⟨.seq (.reg [⟨some 4, .mov (.c (.bool false)), none⟩]) (.kl [4] (.seq (.seq (.reg [⟨some 7, .mov (.t 0), none⟩, ⟨some 8, .mov (.t 1), none⟩, ⟨some 9, .call 116 [.t 8, .c (.int .u8 84)], none⟩, ⟨some 10, .mov (.t 1), none⟩, ⟨some 11, .call 116 [.t 10, .c (.int .u8 46)], none⟩, ⟨some 12, .mov (.t 1), none⟩, ⟨some 13, .call 116 [.t 12, .c (.int .u8 70)], none⟩, ⟨some 14, .call 242 [.t 7, .t 9, .t 11, .t 13], none⟩, ⟨some 15, .lenV (.t 14), none⟩, ⟨some 16, .mov (.c (.int .i64 0)), none⟩]) (.kl [0, 7, 8, 9, 10, 11, 12, 13] (.blk 0 (.loop lp234_0)))) (.seq (.reg [⟨some 4, .mov (.c (.bool false)), none⟩]) (.ret)))), [.tmp 4]⟩
-- lp235_0 HEAD [0, 1, 5, 9, 10, 11] | exit 0: [5]
/-- spec.swLiveMoves -/
def lb235_0 : C := .kl [25] (.seq (.reg [⟨some 12, .bin .lss (.t 11) (.t 10), none⟩]) (.seq (.cond (.t 12) (.skip) (.kl [0, 1, 9, 10, 11, 12] (.exit 0))) (.kl [12] (.seq (.blk 1 (.seq (.reg [⟨some 13, .iaddr 2 (.t 9) (.t 11), none⟩, ⟨some 14, .load true 2 (.t 13), none⟩, ⟨some 7, .new [.int .i64 0, .int .i64 0], none⟩, ⟨none, .store 2 (.t 7) (.t 14), none⟩]) (.kl [13, 14] (.seq (.reg [⟨some 15, .mov (.t 0), none⟩, ⟨some 16, .mov (.t 1), none⟩, ⟨some 17, .load true 2 (.t 7), none⟩, ⟨some 18, .call 66 [.t 16, .t 17], none⟩, ⟨some 19, .call 244 [.t 15, .t 18], none⟩, ⟨some 20, .bin .gtr (.t 19) (.c (.int .i64 0)), none⟩]) (.kl [15, 16, 17, 18, 19] (.cond (.t 20) (.kl [20] (.reg [⟨some 21, .mov (.t 5), none⟩, ⟨some 22, .load true 2 (.t 7), none⟩, ⟨some 23, .lit 2 1 [.int .i64 0, .int .i64 0] [(0, 2, .t 22)], none⟩, ⟨some 24, .app 2 (.t 21) (.t 23), none⟩, ⟨some 5, .mov (.t 24), none⟩])) (.skip))))))) (.kl [7, 20, 21, 22, 23, 24] (.reg [⟨some 25, .bin .add (.t 11) (.c (.int .i64 1)), none⟩, ⟨some 11, .mov (.t 25), none⟩]))))))
def lp235_0 : C := lb235_0
def fi235 : FI := ⟨.seq (.reg [⟨some 4, .mov (.c (.nilS)), none⟩]) (.kl [4] (.seq (.reg [⟨some 5, .mov (.c (.nilS)), none⟩]) (.seq (.seq (.reg [⟨some 8, .mov (.t 1), none⟩, ⟨some 9, .call 119 [.t 8, .c (.bool true), .c (.bool true)], none⟩, ⟨some 10, .lenV (.t 9), none⟩, ⟨some 11, .mov (.c (.int .i64 0)), none⟩]) (.kl [8] (.blk 0 (.loop lp235_0)))) (.seq (.reg [⟨some 26, .mov (.t 5), none⟩, ⟨some 4, .mov (.t 26), none⟩]) (.kl [5, 26] (.ret)))))), [.tmp 4]⟩
/-- impl.IsLive -/
def fi236 : FI := ⟨.seq (.reg [⟨some 2, .mov (.c (.bool false)), none⟩, ⟨some 3, .mov (.c (.bool false)), none⟩]) (.kl [2, 3] (.seq (.seq (.reg [⟨some 4, .mov (.t 0), none⟩, ⟨some 5, .call 82 [.t 4, .c (.int .i64 8)], none⟩, ⟨some 6, .un .not (.t 5), none⟩]) (.kl [4, 5] (.cond (.t 6) (.kl [0, 6] (.seq (.reg [⟨some 2, .mov (.c (.bool false)), none⟩, ⟨some 3, .mov (.c (.bool false)), none⟩]) (.ret))) (.skip)))) (.kl [6] (.seq (.reg [⟨some 7, .mov (.t 0), none⟩, ⟨some 8, .call 245 [.t 7], none⟩, ⟨some 2, .mov (.t 8), none⟩, ⟨some 3, .mov (.c (.bool true)), none⟩]) (.kl [0, 7, 8] (.ret)))))), [.tmp 2, .tmp 3]⟩
/-- impl.to -/
def fi238 : FI := ⟨.seq (.reg [⟨some 2, .new [.str [], .nilM], none⟩]) (.seq (.reg [⟨some 3, .mov (.t 0), none⟩, ⟨some 4, .mkmap, none⟩, ⟨some 5, .mov (.t 0), none⟩, ⟨none, .mset 1 (.t 4) (.t 5) (.c (.int .i64 1)), none⟩, ⟨some 6, .mov (.t 4), none⟩, ⟨some 7, .build [.str [], .nilM] [(0, 1, .t 3), (1, 1, .t 6)], none⟩, ⟨none, .store 2 (.t 2) (.t 7), none⟩]) (.kl [0, 3, 4, 5, 6, 7] (.ret))), [.cell true 2 2]⟩
/-- impl.last -/
def fi237 : FI := ⟨.seq (.reg [⟨some 2, .mov (.c (.str [])), none⟩]) (.kl [2] (.seq (.reg [⟨some 7, .mov (.t 0), none⟩, ⟨some 8, .call 189 [.t 7], none⟩, ⟨some 6, .mov (.t 8), none⟩, ⟨some 9, .prj 0 (.t 6), none⟩, ⟨some 10, .prj 1 (.t 6), none⟩, ⟨some 11, .prj 2 (.t 6), none⟩, ⟨some 3, .mov (.t 9), none⟩, ⟨some 4, .mov (.t 10), none⟩, ⟨some 5, .mov (.t 11), none⟩]) (.kl [0, 6, 7, 8, 9, 10, 11] (.seq (.reg [⟨some 12, .mov (.t 5), none⟩, ⟨some 13, .mov (.t 4), none⟩, ⟨some 14, .mov (.t 3), none⟩, ⟨some 15, .call 246 [.c (.int .u8 70), .t 12, .t 13, .c (.int .u8 84), .t 14], none⟩, ⟨some 2, .mov (.t 15), none⟩]) (.kl [3, 4, 5, 12, 13, 14, 15] (.ret)))))), [.tmp 2]⟩
/-- (impl.swaps).live -/
def fi239 : FI := ⟨.seq (.reg [⟨some 2, .box (.t 0), none⟩, ⟨some 3, .box (.t 1), none⟩, ⟨some 4, .mov (.c (.nilS)), none⟩]) (.kl [0, 1, 4] (.seq (.reg [⟨some 5, .load false 1 (.t 3), none⟩, ⟨some 6, .call 105 [.t 5, .c (.str [84, 70])], none⟩, ⟨some 7, .mkfn 247 [.t 2, .t 3], none⟩, ⟨some 8, .call 248 [.t 6, .t 7], none⟩, ⟨some 4, .mov (.t 8), none⟩]) (.kl [2, 3, 5, 6, 7, 8] (.ret)))), [.tmp 4]⟩
/-- laws.eqMove -/
def fi240 : FI := ⟨.seq (.reg [⟨some 2, .box (.t 0), none⟩, ⟨some 3, .box (.t 1), none⟩, ⟨some 4, .mov (.c (.bool false)), none⟩]) (.kl [0, 1, 4] (.seq (.seq (.reg [⟨some 5, .faddr 0 1 (.t 2), none⟩, ⟨some 6, .load false 1 (.t 5), none⟩, ⟨some 7, .faddr 0 1 (.t 3), none⟩, ⟨some 8, .load false 1 (.t 7), none⟩, ⟨some 9, .bin .neq (.t 6) (.t 8), none⟩]) (.kl [5, 6, 7, 8] (.cond (.t 9) (.kl [2, 3, 9] (.seq (.reg [⟨some 4, .mov (.c (.bool false)), none⟩]) (.ret))) (.skip)))) (.kl [9] (.seq (.seq (.reg [⟨some 10, .faddr 1 1 (.t 2), none⟩, ⟨some 11, .load false 1 (.t 10), none⟩, ⟨some 12, .faddr 1 1 (.t 3), none⟩, ⟨some 13, .load false 1 (.t 12), none⟩, ⟨some 14, .bin .neq (.t 11) (.t 13), none⟩]) (.kl [2, 3, 10, 11, 12, 13] (.cond (.t 14) (.kl [14] (.seq (.reg [⟨some 4, .mov (.c (.bool false)), none⟩]) (.ret))) (.skip)))) (.kl [14] (.seq (.reg [⟨some 4, .mov (.c (.bool true)), none⟩]) (.ret))))))), [.tmp 4]⟩
/-- spec.reFew -/
def fi58 : FI := ⟨.seq (.reg [⟨some 2, .mov (.c (.bool false)), none⟩]) (.kl [2] (.seq (.reg [⟨some 3, .mov (.t 0), none⟩, ⟨some 4, .call 104 [.t 3], none⟩, ⟨some 5, .mov (.t 4), none⟩, ⟨some 6, .mov (.t 0), some (5, true)⟩, ⟨some 7, .lenS (.t 6), some (5, true)⟩, ⟨some 8, .bin .leq (.t 7) (.c (.int .i64 10)), some (5, true)⟩, ⟨some 9, .pick (.t 5) (.t 8) (.c (.bool false)), none⟩, ⟨some 2, .mov (.t 9), none⟩]) (.kl [0, 3, 4, 5, 6, 7, 8, 9] (.ret)))), [.tmp 2]⟩
-- lp268_0 HEAD [3, 9, 10, 11] | exit 0: [3] | exit 2: [3, 9, 10, 11]
-- lp268_1 HEAD [3, 9, 10, 11, 15, 16, 17] | exit 2: [3, 9, 10, 11]
/-- spec.reAll -/
def lb268_1 : C := .kl [24] (.seq (.reg [⟨some 18, .bin .lss (.t 17) (.t 16), none⟩]) (.seq (.cond (.t 18) (.skip) (.kl [15, 16, 17, 18] (.exit 2))) (.kl [18] (.seq (.blk 3 (.seq (.reg [⟨some 19, .iaddr 1 (.t 15) (.t 17), none⟩, ⟨some 20, .load false 1 (.t 19), none⟩, ⟨some 7, .mov (.t 20), none⟩]) (.kl [19, 20] (.reg [⟨some 21, .mov (.t 3), none⟩, ⟨some 22, .mov (.t 7), none⟩, ⟨some 23, .call 129 [.t 21, .t 22], none⟩, ⟨some 3, .mov (.t 23), none⟩])))) (.kl [7, 21, 22, 23] (.reg [⟨some 24, .bin .add (.t 17) (.c (.int .i64 1)), none⟩, ⟨some 17, .mov (.t 24), none⟩]))))))
def lp268_1 : C := lb268_1
def lb268_0 : C := .kl [25] (.seq (.reg [⟨some 12, .bin .lss (.t 11) (.t 10), none⟩]) (.seq (.cond (.t 12) (.skip) (.kl [9, 10, 11, 12] (.exit 0))) (.kl [12] (.seq (.blk 1 (.seq (.reg [⟨some 13, .iaddr 1 (.t 9) (.t 11), none⟩, ⟨some 14, .load false 1 (.t 13), none⟩, ⟨some 5, .mov (.t 14), none⟩]) (.kl [13, 14] (.seq (.reg [⟨some 15, .mov (.t 5), none⟩, ⟨some 16, .lenV (.t 15), none⟩, ⟨some 17, .mov (.c (.int .i64 0)), none⟩]) (.kl [5] (.blk 2 (.loop lp268_1))))))) (.reg [⟨some 25, .bin .add (.t 11) (.c (.int .i64 1)), none⟩, ⟨some 11, .mov (.t 25), none⟩])))))
def lp268_0 : C := lb268_0
def fi268 : FI := ⟨.seq (.reg [⟨some 2, .mov (.c (.nilS)), none⟩]) (.kl [2] (.seq (.reg [⟨some 3, .mov (.c (.nilS)), none⟩]) (.seq (.seq (.reg [⟨some 8, .mov (.t 0), none⟩, ⟨some 9, .call 118 [.t 8], none⟩, ⟨some 10, .lenV (.t 9), none⟩, ⟨some 11, .mov (.c (.int .i64 0)), none⟩]) (.kl [0, 8] (.blk 0 (.loop lp268_0)))) (.seq (.reg [⟨some 26, .mov (.t 3), none⟩, ⟨some 2, .mov (.t 26), none⟩]) (.kl [3, 26] (.ret)))))), [.tmp 2]⟩
/-- spec.liWay -/
def fi297 : FI := ⟨.seq (.reg [⟨some 2, .mov (.c (.int .i64 0)), none⟩]) (.kl [2] (.seq (.reg [⟨some 4, .mov (.t 0), none⟩, ⟨some 5, .call 251 [.t 4], none⟩, ⟨some 3, .mov (.t 5), none⟩]) (.kl [4, 5] (.seq (.reg [⟨some 6, .mov (.t 3), none⟩, ⟨some 7, .call 302 [.t 6, .c (.int .u8 84)], none⟩, ⟨some 8, .mov (.t 0), none⟩, ⟨some 9, .call 302 [.t 8, .c (.int .u8 84)], none⟩, ⟨some 10, .bin .sub (.t 7) (.t 9), none⟩, ⟨some 11, .mov (.t 0), none⟩, ⟨some 12, .call 302 [.t 11, .c (.int .u8 70)], none⟩, ⟨some 13, .bin .add (.t 10) (.t 12), none⟩, ⟨some 14, .mov (.t 3), none⟩, ⟨some 15, .call 302 [.t 14, .c (.int .u8 70)], none⟩, ⟨some 16, .bin .sub (.t 13) (.t 15), none⟩, ⟨some 2, .mov (.t 16), none⟩]) (.kl [0, 3, 6, 7, 8, 9, 10, 11, 12, 13, 14, 15, 16] (.ret)))))), [.tmp 2]⟩
/-- impl.isReachLine -/
def fi56 : FI := ⟨.seq (.reg [⟨some 2, .mov (.c (.bool false)), none⟩]) (.kl [2] (.seq (.reg [⟨some 3, .mov (.t 0), none⟩, ⟨some 4, .call 82 [.t 3, .c (.int .i64 10)], none⟩, ⟨some 2, .mov (.t 4), none⟩]) (.kl [0, 3, 4] (.ret)))), [.tmp 2]⟩
-- lp300_0 HEAD [0, 1, 5, 6] | exit 0: [5]
/-- slices.MinFunc[[]string,string] -/
def lb300_0 : C := .kl [18, 19] (.seq (.seq (.reg [⟨some 14, .mov (.t 6), none⟩, ⟨some 15, .mov (.t 0), none⟩, ⟨some 16, .lenV (.t 15), none⟩, ⟨some 17, .bin .lss (.t 14) (.t 16), none⟩]) (.kl [14, 15, 16] (.cond (.t 17) (.skip) (.kl [0, 1, 6, 17] (.exit 0))))) (.kl [17] (.seq (.blk 1 (.seq (.reg [⟨some 20, .mov (.t 1), none⟩, ⟨some 21, .mov (.t 0), none⟩, ⟨some 22, .mov (.t 6), none⟩, ⟨some 23, .iaddr 1 (.t 21) (.t 22), none⟩, ⟨some 24, .load false 1 (.t 23), none⟩, ⟨some 25, .mov (.t 5), none⟩, ⟨some 26, .callv (.t 20) [.t 24, .t 25], none⟩, ⟨some 27, .bin .lss (.t 26) (.c (.int .i64 0)), none⟩]) (.kl [20, 21, 22, 23, 24, 25, 26] (.cond (.t 27) (.kl [5, 27] (.reg [⟨some 28, .mov (.t 0), none⟩, ⟨some 29, .mov (.t 6), none⟩, ⟨some 30, .iaddr 1 (.t 28) (.t 29), none⟩, ⟨some 31, .load false 1 (.t 30), none⟩, ⟨some 5, .mov (.t 31), none⟩])) (.skip))))) (.kl [27, 28, 29, 30, 31] (.reg [⟨some 18, .mov (.t 6), none⟩, ⟨some 19, .bin .add (.t 18) (.c (.int .i64 1)), none⟩, ⟨some 6, .mov (.t 19), none⟩])))))
def lp300_0 : C := lb300_0
def fi300 : FI := ⟨.seq (.reg [⟨some 4, .mov (.c (.str [])), none⟩]) (.kl [4] (.seq (.seq (.reg [⟨some 7, .mov (.t 0), none⟩, ⟨some 8, .lenV (.t 7), none⟩, ⟨some 9, .bin .lss (.t 8) (.c (.int .i64 1)), none⟩]) (.kl [7, 8] (.cond (.t 9) (.bad) (.skip)))) (.kl [9] (.seq (.reg [⟨some 11, .mov (.t 0), none⟩, ⟨some 12, .iaddr 1 (.t 11) (.c (.int .i64 0)), none⟩, ⟨some 13, .load false 1 (.t 12), none⟩, ⟨some 5, .mov (.t 13), none⟩]) (.kl [11, 12, 13] (.seq (.seq (.reg [⟨some 6, .mov (.c (.int .i64 1)), none⟩]) (.blk 0 (.loop lp300_0))) (.seq (.reg [⟨some 32, .mov (.t 5), none⟩, ⟨some 4, .mov (.t 32), none⟩]) (.kl [5, 32] (.ret))))))))), [.tmp 4]⟩
/-- slices.Sorted[string] -/
def fi299 : FI := ⟨.seq (.reg [⟨some 2, .mov (.c (.nilS)), none⟩]) (.kl [2] (.seq (.reg [⟨some 4, .mov (.t 0), none⟩, ⟨some 5, .call 303 [.t 4], none⟩, ⟨some 3, .mov (.t 5), none⟩]) (.kl [0, 4, 5] (.seq (.reg [⟨some 6, .mov (.t 3), none⟩, ⟨some 7, .call 275 [.t 6], none⟩]) (.kl [6, 7] (.seq (.reg [⟨some 8, .mov (.t 3), none⟩, ⟨some 2, .mov (.t 8), none⟩]) (.kl [3, 8] (.ret)))))))), [.tmp 2]⟩
/-- maps.Keys[map[string]int,string,int] -/
def fi298 : FI := ⟨.seq (.reg [⟨some 1, .box (.t 0), none⟩, ⟨some 2, .mov (.c (.nilF)), none⟩]) (.kl [0, 2] (.seq (.reg [⟨some 3, .mkfn 304 [.t 1], none⟩, ⟨some 2, .mov (.t 3), none⟩]) (.kl [1, 3] (.ret)))), [.tmp 2]⟩
-- lp273_0 HEAD [3, 4] | exit 0: [3] | exit 2: [3, 4]
-- lp273_1 HEAD [3, 4, 23, 24, 25] | exit 2: [3, 4]
/-- impl.reached -/
def lb273_1 : C := .kl [54] (.seq (.reg [⟨some 26, .bin .lss (.t 25) (.t 24), none⟩]) (.seq (.cond (.t 26) (.skip) (.kl [23, 24, 25, 26] (.exit 2))) (.kl [26] (.seq (.blk 3 (.seq (.reg [⟨some 27, .iaddr 2 (.t 23) (.t 25), none⟩, ⟨some 28, .load true 2 (.t 27), none⟩, ⟨some 6, .new [.int .i64 0, .int .i64 0], none⟩, ⟨none, .store 2 (.t 6) (.t 28), none⟩]) (.kl [27, 28] (.seq (.drw [⟨some 29, .mov (.t 4), none⟩, ⟨some 30, .iaddr 1 (.t 29) (.c (.int .i64 0)), none⟩, ⟨some 31, .load false 1 (.t 30), none⟩, ⟨some 32, .load true 2 (.t 6), none⟩, ⟨some 33, .call 61 [.t 31, .t 32], none⟩, ⟨some 7, .mov (.t 33), none⟩] []) (.kl [6, 29, 30, 31, 32, 33] (.seq (.reg [⟨some 35, .mov (.t 3), none⟩, ⟨some 36, .mov (.t 7), none⟩, ⟨some 37, .look 1 (.int .i64 0) true (.t 35) (.t 36), none⟩, ⟨some 34, .mov (.t 37), none⟩, ⟨some 38, .prj 0 (.t 34), none⟩, ⟨some 39, .prj 1 (.t 34), none⟩, ⟨some 8, .mov (.t 38), none⟩, ⟨some 9, .mov (.t 39), none⟩]) (.kl [8, 34, 35, 36, 37, 38, 39] (.seq (.reg [⟨some 40, .mov (.t 9), none⟩, ⟨some 41, .un .not (.t 40), none⟩]) (.kl [9, 40] (.cond (.t 41) (.kl [41] (.seq (.reg [⟨some 42, .mov (.t 3), none⟩, ⟨some 43, .mov (.t 7), none⟩, ⟨some 44, .mov (.t 3), none⟩, ⟨some 45, .mov (.t 4), none⟩, ⟨some 46, .iaddr 1 (.t 45) (.c (.int .i64 0)), none⟩, ⟨some 47, .load false 1 (.t 46), none⟩, ⟨some 48, .look 1 (.int .i64 0) false (.t 44) (.t 47), none⟩, ⟨some 49, .bin .add (.t 48) (.c (.int .i64 1)), none⟩, ⟨none, .mset 1 (.t 42) (.t 43) (.t 49), none⟩]) (.kl [42, 43, 44, 45, 46, 47, 48, 49] (.reg [⟨some 50, .mov (.t 4), none⟩, ⟨some 51, .mov (.t 7), none⟩, ⟨some 52, .lit 1 1 [.str []] [(0, 1, .t 51)], none⟩, ⟨some 53, .app 1 (.t 50) (.t 52), none⟩, ⟨some 4, .mov (.t 53), none⟩])))) (.skip))))))))))) (.kl [7, 41, 50, 51, 52, 53] (.reg [⟨some 54, .bin .add (.t 25) (.c (.int .i64 1)), none⟩, ⟨some 25, .mov (.t 54), none⟩]))))))
def lp273_1 : C := lb273_1
def lb273_0 : C := .kl [18, 19] (.seq (.seq (.reg [⟨some 15, .mov (.t 4), none⟩, ⟨some 16, .lenV (.t 15), none⟩, ⟨some 17, .bin .gtr (.t 16) (.c (.int .i64 0)), none⟩]) (.kl [15, 16] (.cond (.t 17) (.skip) (.kl [4, 17] (.exit 0))))) (.kl [17] (.seq (.blk 1 (.seq (.reg [⟨some 20, .mov (.t 4), none⟩, ⟨some 21, .iaddr 1 (.t 20) (.c (.int .i64 0)), none⟩, ⟨some 22, .load false 1 (.t 21), none⟩, ⟨some 23, .call 105 [.t 22, .c (.str [84, 70])], none⟩, ⟨some 24, .lenV (.t 23), none⟩, ⟨some 25, .mov (.c (.int .i64 0)), none⟩]) (.kl [20, 21, 22] (.blk 2 (.loop lp273_1))))) (.reg [⟨some 18, .mov (.t 4), none⟩, ⟨some 19, .sub 1 (.t 18) (some (.c (.int .i64 1))) none, none⟩, ⟨some 4, .mov (.t 19), none⟩]))))
def lp273_0 : C := lb273_0
def fi273 : FI := ⟨.seq (.reg [⟨some 2, .mov (.c (.nilM)), none⟩]) (.kl [2] (.seq (.reg [⟨some 10, .mkmap, none⟩, ⟨some 11, .mov (.t 0), none⟩, ⟨none, .mset 1 (.t 10) (.t 11) (.c (.int .i64 0)), none⟩, ⟨some 12, .mov (.t 10), none⟩, ⟨some 3, .mov (.t 12), none⟩]) (.kl [10, 11, 12] (.seq (.seq (.reg [⟨some 13, .mov (.t 0), none⟩, ⟨some 14, .lit 1 1 [.str []] [(0, 1, .t 13)], none⟩, ⟨some 4, .mov (.t 14), none⟩]) (.kl [0, 13, 14] (.blk 0 (.loop lp273_0)))) (.seq (.reg [⟨some 55, .mov (.t 3), none⟩, ⟨some 2, .mov (.t 55), none⟩]) (.kl [3, 55] (.ret))))))), [.tmp 2]⟩
/-- impl.NearestLine$1 -/
def fi301 : FI := ⟨.seq (.reg [⟨some 4, .mov (.c (.int .i64 0)), none⟩]) (.kl [4] (.seq (.reg [⟨some 5, .mov (.t 0), none⟩, ⟨some 6, .call 305 [.t 5], none⟩, ⟨some 7, .mov (.t 1), none⟩, ⟨some 8, .call 305 [.t 7], none⟩, ⟨some 9, .call 306 [.t 6, .t 8], none⟩, ⟨some 4, .mov (.t 9), none⟩]) (.kl [0, 1, 5, 6, 7, 8, 9] (.ret)))), [.tmp 4]⟩
/-- cmp.Compare[int] -/
def fi306 : FI := ⟨.seq (.reg [⟨some 4, .mov (.c (.int .i64 0)), none⟩]) (.kl [4] (.seq (.reg [⟨some 7, .mov (.t 0), none⟩, ⟨some 8, .call 307 [.t 7], none⟩, ⟨some 5, .mov (.t 8), none⟩]) (.kl [7, 8] (.seq (.reg [⟨some 9, .mov (.t 1), none⟩, ⟨some 10, .call 307 [.t 9], none⟩, ⟨some 6, .mov (.t 10), none⟩]) (.kl [9, 10] (.seq (.seq (.reg [⟨some 11, .mov (.t 5), none⟩]) (.kl [5] (.cond (.t 11) (.kl [0, 1, 11] (.seq (.seq (.reg [⟨some 12, .mov (.t 6), none⟩]) (.kl [6] (.cond (.t 12) (.kl [12] (.seq (.reg [⟨some 4, .mov (.c (.int .i64 0)), none⟩]) (.ret))) (.skip)))) (.kl [12] (.seq (.reg [⟨some 4, .mov (.c (.int .i64 (-1))), none⟩]) (.ret))))) (.skip)))) (.kl [11] (.seq (.seq (.reg [⟨some 13, .mov (.t 6), none⟩]) (.kl [6] (.cond (.t 13) (.kl [0, 1, 13] (.seq (.reg [⟨some 4, .mov (.c (.int .i64 1)), none⟩]) (.ret))) (.skip)))) (.kl [13] (.seq (.seq (.reg [⟨some 14, .mov (.t 0), none⟩, ⟨some 15, .mov (.t 1), none⟩, ⟨some 16, .bin .lss (.t 14) (.t 15), none⟩]) (.kl [14, 15] (.cond (.t 16) (.kl [0, 1, 16] (.seq (.reg [⟨some 4, .mov (.c (.int .i64 (-1))), none⟩]) (.ret))) (.skip)))) (.kl [16] (.seq (.seq (.reg [⟨some 17, .mov (.t 0), none⟩, ⟨some 18, .mov (.t 1), none⟩, ⟨some 19, .bin .gtr (.t 17) (.t 18), none⟩]) (.kl [0, 1, 17, 18] (.cond (.t 19) (.kl [19] (.seq (.reg [⟨some 4, .mov (.c (.int .i64 1)), none⟩]) (.ret))) (.skip)))) (.kl [19] (.seq (.reg [⟨some 4, .mov (.c (.int .i64 0)), none⟩]) (.ret))))))))))))))), [.tmp 4]⟩
-- lp305_0 HEAD [0, 6, 7, 8, 21, 22] | exit 0: [6]
/-- impl.way -/
def lb305_0 : C := .kl [46] (.seq (.reg [⟨some 23, .bin .lss (.t 22) (.t 21), none⟩]) (.seq (.cond (.t 23) (.skip) (.kl [0, 7, 8, 21, 22, 23] (.exit 0))) (.kl [23] (.seq (.blk 1 (.seq (.reg [⟨some 24, .mov (.t 22), none⟩, ⟨some 9, .mov (.t 24), none⟩]) (.kl [24] (.seq (.reg [⟨some 25, .mov (.t 0), none⟩, ⟨some 26, .mov (.t 9), none⟩, ⟨some 27, .idxS (.t 25) (.t 26), none⟩]) (.kl [25, 26] (.blk 2 (.seq (.reg [⟨some 29, .bin .eql (.t 27) (.c (.int .u8 84)), none⟩, ⟨some 28, .mov (.t 29), none⟩]) (.kl [29] (.cond (.t 28) (.kl [27, 28] (.seq (.reg [⟨some 30, .mov (.t 6), none⟩, ⟨some 31, .mov (.t 7), none⟩, ⟨some 32, .mov (.t 9), none⟩, ⟨some 33, .bin .sub (.t 31) (.t 32), none⟩, ⟨some 34, .bin .add (.t 30) (.t 33), none⟩, ⟨some 6, .mov (.t 34), none⟩]) (.kl [9, 30, 31, 32, 33, 34] (.reg [⟨some 35, .mov (.t 7), none⟩, ⟨some 36, .bin .add (.t 35) (.c (.int .i64 1)), none⟩, ⟨some 7, .mov (.t 36), none⟩])))) (.kl [28] (.seq (.reg [⟨some 38, .bin .eql (.t 27) (.c (.int .u8 70)), none⟩, ⟨some 37, .mov (.t 38), none⟩]) (.kl [27, 38] (.cond (.t 37) (.kl [37] (.seq (.reg [⟨some 39, .mov (.t 6), none⟩, ⟨some 40, .mov (.t 9), none⟩, ⟨some 41, .mov (.t 8), none⟩, ⟨some 42, .bin .sub (.t 40) (.t 41), none⟩, ⟨some 43, .bin .add (.t 39) (.t 42), none⟩, ⟨some 6, .mov (.t 43), none⟩]) (.kl [9, 39, 40, 41, 42, 43] (.reg [⟨some 44, .mov (.t 8), none⟩, ⟨some 45, .bin .add (.t 44) (.c (.int .i64 1)), none⟩, ⟨some 8, .mov (.t 45), none⟩])))) (.skip)))))))))))))) (.kl [9, 35, 36, 37, 44, 45] (.reg [⟨some 46, .bin .add (.t 22) (.c (.int .i64 1)), none⟩, ⟨some 22, .mov (.t 46), none⟩]))))))
def lp305_0 : C := lb305_0
def fi305 : FI := ⟨.seq (.reg [⟨some 2, .mov (.c (.int .i64 0)), none⟩]) (.kl [2] (.seq (.reg [⟨some 11, .mov (.t 0), none⟩, ⟨some 12, .call 189 [.t 11], none⟩, ⟨some 10, .mov (.t 12), none⟩, ⟨some 13, .prj 0 (.t 10), none⟩, ⟨some 14, .prj 1 (.t 10), none⟩, ⟨some 15, .prj 2 (.t 10), none⟩, ⟨some 3, .mov (.t 13), none⟩, ⟨some 4, .mov (.t 14), none⟩, ⟨some 5, .mov (.t 15), none⟩]) (.kl [4, 5, 10, 11, 12, 13, 14, 15] (.seq (.reg [⟨some 16, .mov (.t 0), none⟩, ⟨some 17, .lenS (.t 16), none⟩, ⟨some 18, .mov (.t 3), none⟩, ⟨some 19, .bin .sub (.t 17) (.t 18), none⟩, ⟨some 6, .mov (.c (.int .i64 0)), none⟩, ⟨some 7, .mov (.t 19), none⟩, ⟨some 8, .mov (.c (.int .i64 0)), none⟩]) (.kl [3, 16, 17, 18, 19] (.seq (.seq (.reg [⟨some 20, .mov (.t 0), none⟩, ⟨some 21, .lenS (.t 20), none⟩, ⟨some 22, .mov (.c (.int .i64 0)), none⟩]) (.kl [20] (.blk 0 (.loop lp305_0)))) (.seq (.reg [⟨some 47, .mov (.t 6), none⟩, ⟨some 2, .mov (.t 47), none⟩]) (.kl [6, 47] (.ret))))))))), [.tmp 2]⟩
-- lp104_0 HEAD [0, 3] | exit 0: [] | ret: [2]
/-- spec.liGood -/
def lb104_0 : C := .kl [12, 13] (.seq (.seq (.reg [⟨some 8, .mov (.t 3), none⟩, ⟨some 9, .mov (.t 0), none⟩, ⟨some 10, .lenS (.t 9), none⟩, ⟨some 11, .bin .lss (.t 8) (.t 10), none⟩]) (.kl [8, 9, 10] (.cond (.t 11) (.skip) (.kl [0, 3, 11] (.exit 0))))) (.kl [11] (.seq (.blk 1 (.seq (.reg [⟨some 14, .mov (.t 0), none⟩, ⟨some 15, .mov (.t 3), none⟩, ⟨some 16, .idxS (.t 14) (.t 15), none⟩, ⟨some 17, .bin .neq (.t 16) (.c (.int .u8 84)), none⟩, ⟨some 18, .mov (.t 17), none⟩, ⟨some 19, .mov (.t 0), some (18, true)⟩, ⟨some 20, .mov (.t 3), some (18, true)⟩, ⟨some 21, .idxS (.t 19) (.t 20), some (18, true)⟩, ⟨some 22, .bin .neq (.t 21) (.c (.int .u8 70)), some (18, true)⟩, ⟨some 23, .pick (.t 18) (.t 22) (.c (.bool false)), none⟩, ⟨some 24, .mov (.t 23), none⟩, ⟨some 25, .mov (.t 0), some (24, true)⟩, ⟨some 26, .mov (.t 3), some (24, true)⟩, ⟨some 27, .idxS (.t 25) (.t 26), some (24, true)⟩, ⟨some 28, .bin .neq (.t 27) (.c (.int .u8 46)), some (24, true)⟩, ⟨some 29, .pick (.t 24) (.t 28) (.c (.bool false)), none⟩]) (.kl [14, 15, 16, 17, 18, 19, 20, 21, 22, 23, 24, 25, 26, 27, 28] (.cond (.t 29) (.kl [0, 3, 29] (.seq (.reg [⟨some 2, .mov (.c (.bool false)), none⟩]) (.ret))) (.skip))))) (.kl [29] (.reg [⟨some 12, .mov (.t 3), none⟩, ⟨some 13, .bin .add (.t 12) (.c (.int .i64 1)), none⟩, ⟨some 3, .mov (.t 13), none⟩])))))
def lp104_0 : C := lb104_0
def fi104 : FI := ⟨.seq (.reg [⟨some 2, .mov (.c (.bool false)), none⟩]) (.kl [2] (.seq (.seq (.reg [⟨some 4, .mov (.t 0), none⟩, ⟨some 5, .lenS (.t 4), none⟩, ⟨some 6, .call 77 [.t 5, .c (.int .i64 1), .c (.int .i64 12)], none⟩, ⟨some 7, .un .not (.t 6), none⟩]) (.kl [4, 5, 6] (.cond (.t 7) (.kl [0, 7] (.seq (.reg [⟨some 2, .mov (.c (.bool false)), none⟩]) (.ret))) (.skip)))) (.kl [7] (.seq (.seq (.reg [⟨some 3, .mov (.c (.int .i64 0)), none⟩]) (.blk 0 (.loop lp104_0))) (.seq (.reg [⟨some 2, .mov (.c (.bool true)), none⟩]) (.ret)))))), [.tmp 2]⟩
/-- spec.swLive -/
def fi242 : FI := ⟨.seq (.reg [⟨some 8, .mov (.c (.nilS)), none⟩]) (.kl [8] (.seq (.reg [⟨some 10, .mov (.t 1), none⟩, ⟨some 11, .mov (.t 2), none⟩, ⟨some 12, .mov (.t 3), none⟩, ⟨some 13, .call 100 [.t 10, .t 11, .t 12], none⟩, ⟨some 9, .mov (.t 13), none⟩]) (.kl [1, 2, 3, 10, 11, 12, 13] (.seq (.seq (.reg [⟨some 14, .mov (.t 0), none⟩, ⟨some 15, .mov (.t 9), none⟩, ⟨some 16, .call 244 [.t 14, .t 15], none⟩, ⟨some 17, .bin .eql (.t 16) (.c (.int .i64 0)), none⟩]) (.kl [14, 15, 16] (.cond (.t 17) (.kl [0, 9, 17] (.seq (.reg [⟨some 8, .mov (.c (.nilS)), none⟩]) (.ret))) (.skip)))) (.kl [17] (.seq (.reg [⟨some 18, .mov (.t 0), none⟩, ⟨some 19, .mov (.t 9), none⟩, ⟨some 20, .call 250 [.t 18, .t 19], none⟩, ⟨some 8, .mov (.t 20), none⟩]) (.kl [0, 9, 18, 19, 20] (.ret)))))))), [.tmp 8]⟩
-- lp116_0 HEAD [0, 1, 5, 6] | exit 0: [5]
/-- spec.liCount -/
def lb116_0 : C := .kl [11, 12] (.seq (.seq (.reg [⟨some 7, .mov (.t 6), none⟩, ⟨some 8, .mov (.t 0), none⟩, ⟨some 9, .lenS (.t 8), none⟩, ⟨some 10, .bin .lss (.t 7) (.t 9), none⟩]) (.kl [7, 8, 9] (.cond (.t 10) (.skip) (.kl [0, 1, 6, 10] (.exit 0))))) (.kl [10] (.seq (.blk 1 (.seq (.reg [⟨some 13, .mov (.t 0), none⟩, ⟨some 14, .mov (.t 6), none⟩, ⟨some 15, .idxS (.t 13) (.t 14), none⟩, ⟨some 16, .mov (.t 1), none⟩, ⟨some 17, .bin .eql (.t 15) (.t 16), none⟩]) (.kl [13, 14, 15, 16] (.cond (.t 17) (.kl [17] (.reg [⟨some 18, .mov (.t 5), none⟩, ⟨some 19, .bin .add (.t 18) (.c (.int .i64 1)), none⟩, ⟨some 5, .mov (.t 19), none⟩])) (.skip))))) (.kl [17, 18, 19] (.reg [⟨some 11, .mov (.t 6), none⟩, ⟨some 12, .bin .add (.t 11) (.c (.int .i64 1)), none⟩, ⟨some 6, .mov (.t 12), none⟩])))))
def lp116_0 : C := lb116_0
def fi116 : FI := ⟨.seq (.reg [⟨some 4, .mov (.c (.int .i64 0)), none⟩]) (.kl [4] (.seq (.reg [⟨some 5, .mov (.c (.int .i64 0)), none⟩]) (.seq (.seq (.reg [⟨some 6, .mov (.c (.int .i64 0)), none⟩]) (.blk 0 (.loop lp116_0))) (.seq (.reg [⟨some 20, .mov (.t 5), none⟩, ⟨some 4, .mov (.t 20), none⟩]) (.kl [5, 20] (.ret)))))), [.tmp 4]⟩
-- lp243_0 HEAD [1, 7, 8, 9] | exit 0: [] | ret: [4]
/-- spec.l1HasS -/
def lb243_0 : C := .kl [16] (.seq (.reg [⟨some 10, .bin .lss (.t 9) (.t 8), none⟩]) (.seq (.cond (.t 10) (.skip) (.kl [1, 7, 8, 9, 10] (.exit 0))) (.kl [10] (.seq (.blk 1 (.seq (.reg [⟨some 11, .iaddr 1 (.t 7) (.t 9), none⟩, ⟨some 12, .load false 1 (.t 11), none⟩, ⟨some 6, .mov (.t 12), none⟩]) (.kl [11, 12] (.seq (.reg [⟨some 13, .mov (.t 6), none⟩, ⟨some 14, .mov (.t 1), none⟩, ⟨some 15, .bin .eql (.t 13) (.t 14), none⟩]) (.kl [6, 13, 14] (.cond (.t 15) (.kl [1, 7, 8, 9, 15] (.seq (.reg [⟨some 4, .mov (.c (.bool true)), none⟩]) (.ret))) (.skip))))))) (.kl [15] (.reg [⟨some 16, .bin .add (.t 9) (.c (.int .i64 1)), none⟩, ⟨some 9, .mov (.t 16), none⟩]))))))
def lp243_0 : C := lb243_0
def fi243 : FI := ⟨.seq (.reg [⟨some 4, .mov (.c (.bool false)), none⟩]) (.kl [4] (.seq (.seq (.reg [⟨some 7, .mov (.t 0), none⟩, ⟨some 8, .lenV (.t 7), none⟩, ⟨some 9, .mov (.c (.int .i64 0)), none⟩]) (.kl [0] (.blk 0 (.loop lp243_0)))) (.seq (.reg [⟨some 4, .mov (.c (.bool false)), none⟩]) (.ret)))), [.tmp 4]⟩
-- lp119_0 HEAD [0, 1, 2, 7, 12] | exit 0: [7] | exit 1: [0, 1, 2, 7, 12] | exit 2: [0, 1, 2, 7, 12]
-- lp119_1 HEAD [0, 1, 2, 7, 8, 9, 12] | exit 2: [0, 1, 2, 7, 12]
/-- spec.liMoves -/
def lb119_1 : C := .kl [40, 41] (.seq (.seq (.reg [⟨some 36, .mov (.t 9), none⟩, ⟨some 37, .mov (.t 8), none⟩, ⟨some 38, .bin .add (.t 37) (.c (.int .i64 2)), none⟩, ⟨some 39, .bin .leq (.t 36) (.t 38), none⟩]) (.kl [36, 37, 38] (.cond (.t 39) (.skip) (.kl [8, 9, 39] (.exit 2))))) (.kl [39] (.seq (.blk 3 (.seq (.reg [⟨some 42, .mov (.t 8), none⟩, ⟨some 43, .mov (.t 9), none⟩, ⟨some 44, .build [.int .i64 0, .int .i64 0] [(0, 1, .t 42), (1, 1, .t 43)], none⟩, ⟨some 10, .new [.int .i64 0, .int .i64 0], none⟩, ⟨none, .store 2 (.t 10) (.t 44), none⟩]) (.kl [42, 43, 44] (.seq (.reg [⟨some 45, .mov (.t 0), none⟩, ⟨some 46, .load true 2 (.t 10), none⟩, ⟨some 47, .call 130 [.t 45, .t 46], none⟩]) (.kl [45, 46] (.cond (.t 47) (.kl [47] (.reg [⟨some 48, .mov (.t 7), none⟩, ⟨some 49, .load true 2 (.t 10), none⟩, ⟨some 50, .lit 2 1 [.int .i64 0, .int .i64 0] [(0, 2, .t 49)], none⟩, ⟨some 51, .app 2 (.t 48) (.t 50), none⟩, ⟨some 7, .mov (.t 51), none⟩])) (.skip))))))) (.kl [10, 47, 48, 49, 50, 51] (.reg [⟨some 40, .mov (.t 9), none⟩, ⟨some 41, .bin .add (.t 40) (.c (.int .i64 1)), none⟩, ⟨some 9, .mov (.t 41), none⟩])))))
def lp119_1 : C := lb119_1
def lb119_0 : C := .kl [] (.seq (.reg [⟨some 13, .nxt (.t 12), none⟩, ⟨some 14, .prj 0 (.t 13), none⟩]) (.seq (.cond (.t 14) (.skip) (.kl [0, 1, 2, 12, 13, 14] (.exit 0))) (.kl [14] (.blk 1 (.seq (.reg [⟨some 15, .prj 1 (.t 13), none⟩, ⟨some 8, .mov (.t 15), none⟩]) (.kl [13, 15] (.seq (.seq (.reg [⟨some 16, .mov (.t 0), none⟩, ⟨some 17, .mov (.t 8), none⟩, ⟨some 18, .idxS (.t 16) (.t 17), none⟩, ⟨some 19, .bin .eql (.t 18) (.c (.int .u8 84)), none⟩, ⟨some 20, .mov (.t 19), none⟩, ⟨some 21, .mov (.t 1), some (20, true)⟩, ⟨some 22, .un .not (.t 21), some (20, true)⟩, ⟨some 23, .pick (.t 20) (.t 22) (.c (.bool false)), none⟩, ⟨some 24, .mov (.t 23), none⟩, ⟨some 25, .mov (.t 0), some (24, false)⟩, ⟨some 26, .mov (.t 8), some (24, false)⟩, ⟨some 27, .idxS (.t 25) (.t 26), some (24, false)⟩, ⟨some 28, .bin .eql (.t 27) (.c (.int .u8 70)), some (24, false)⟩, ⟨some 29, .mov (.t 28), some (24, false)⟩, ⟨some 30, .mov (.t 2), some (29, true)⟩, ⟨some 31, .un .not (.t 30), some (29, true)⟩, ⟨some 32, .pick (.t 29) (.t 31) (.c (.bool false)), some (24, false)⟩, ⟨some 33, .pick (.t 24) (.c (.bool true)) (.t 32), none⟩]) (.kl [16, 17, 18, 19, 20, 21, 22, 23, 24, 25, 26, 27, 28, 29, 30, 31, 32] (.cond (.t 33) (.kl [8, 33] (.exit 1)) (.skip)))) (.kl [33] (.seq (.reg [⟨some 34, .mov (.t 8), none⟩, ⟨some 35, .bin .sub (.t 34) (.c (.int .i64 2)), none⟩, ⟨some 9, .mov (.t 35), none⟩]) (.kl [34, 35] (.blk 2 (.loop lp119_1))))))))))))
def lp119_0 : C := lb119_0
def fi119 : FI := ⟨.seq (.reg [⟨some 6, .mov (.c (.nilS)), none⟩]) (.kl [6] (.seq (.reg [⟨some 7, .mov (.c (.nilS)), none⟩]) (.seq (.seq (.reg [⟨some 11, .mov (.t 0), none⟩, ⟨some 12, .rng (.t 11), none⟩]) (.kl [11] (.blk 0 (.loop lp119_0)))) (.seq (.reg [⟨some 52, .mov (.t 7), none⟩, ⟨some 6, .mov (.t 52), none⟩]) (.kl [7, 52] (.ret)))))), [.tmp 6]⟩
-- lp244_0 HEAD [0, 1, 13, 14, 15] | exit 0: [0, 1] | ret: [4]
-- lp244_1 HEAD [0, 1, 7, 36, 37, 38] | exit 2: [0, 1, 7]
/-- (*spec.swEnds).from -/
def lb244_1 : C := .kl [49] (.seq (.reg [⟨some 39, .bin .lss (.t 38) (.t 37), none⟩]) (.seq (.cond (.t 39) (.skip) (.kl [36, 37, 38, 39] (.exit 2))) (.kl [39] (.seq (.blk 3 (.seq (.reg [⟨some 40, .iaddr 2 (.t 36) (.t 38), none⟩, ⟨some 41, .load true 2 (.t 40), none⟩, ⟨some 9, .new [.int .i64 0, .int .i64 0], none⟩, ⟨none, .store 2 (.t 9) (.t 41), none⟩]) (.kl [40, 41] (.reg [⟨some 42, .mov (.t 7), none⟩, ⟨some 43, .mov (.t 0), none⟩, ⟨some 44, .mov (.t 1), none⟩, ⟨some 45, .load true 2 (.t 9), none⟩, ⟨some 46, .call 66 [.t 44, .t 45], none⟩, ⟨some 47, .call 244 [.t 43, .t 46], none⟩, ⟨some 48, .bin .add (.t 42) (.t 47), none⟩, ⟨some 7, .mov (.t 48), none⟩])))) (.kl [9, 42, 43, 44, 45, 46, 47, 48] (.reg [⟨some 49, .bin .add (.t 38) (.c (.int .i64 1)), none⟩, ⟨some 38, .mov (.t 49), none⟩]))))))
def lp244_1 : C := lb244_1
def lb244_0 : C := .kl [30] (.seq (.reg [⟨some 16, .bin .lss (.t 15) (.t 14), none⟩]) (.seq (.cond (.t 16) (.skip) (.kl [13, 14, 15, 16] (.exit 0))) (.kl [16] (.seq (.blk 1 (.seq (.reg [⟨some 17, .mov (.t 15), none⟩, ⟨some 18, .iaddr 1 (.t 13) (.t 15), none⟩, ⟨some 19, .load false 1 (.t 18), none⟩, ⟨some 5, .mov (.t 17), none⟩, ⟨some 6, .mov (.t 19), none⟩]) (.kl [17, 18, 19] (.seq (.reg [⟨some 20, .mov (.t 6), none⟩, ⟨some 21, .mov (.t 1), none⟩, ⟨some 22, .bin .eql (.t 20) (.t 21), none⟩]) (.kl [6, 20, 21] (.cond (.t 22) (.kl [1, 13, 14, 15, 22] (.seq (.reg [⟨some 23, .mov (.t 0), none⟩, ⟨some 24, .nck (.t 23), none⟩, ⟨some 25, .faddr 1 1 (.t 24), none⟩, ⟨some 26, .load false 1 (.t 25), none⟩, ⟨some 27, .mov (.t 5), none⟩, ⟨some 28, .iaddr 1 (.t 26) (.t 27), none⟩, ⟨some 29, .load false 1 (.t 28), none⟩, ⟨some 4, .mov (.t 29), none⟩]) (.kl [0, 5, 23, 24, 25, 26, 27, 28, 29] (.ret)))) (.skip))))))) (.kl [5, 22] (.reg [⟨some 30, .bin .add (.t 15) (.c (.int .i64 1)), none⟩, ⟨some 15, .mov (.t 30), none⟩]))))))
def lp244_0 : C := lb244_0
def fi244 : FI := ⟨.seq (.reg [⟨some 4, .mov (.c (.int .i64 0)), none⟩]) (.kl [4] (.seq (.seq (.reg [⟨some 10, .mov (.t 0), none⟩, ⟨some 11, .nck (.t 10), none⟩, ⟨some 12, .faddr 0 1 (.t 11), none⟩, ⟨some 13, .load false 1 (.t 12), none⟩, ⟨some 14, .lenV (.t 13), none⟩, ⟨some 15, .mov (.c (.int .i64 0)), none⟩]) (.kl [10, 11, 12] (.blk 0 (.loop lp244_0)))) (.seq (.reg [⟨some 7, .mov (.c (.int .i64 0)), none⟩]) (.seq (.seq (.reg [⟨some 31, .mov (.t 1), none⟩, ⟨some 32, .mov (.t 1), none⟩, ⟨some 33, .call 251 [.t 32], none⟩, ⟨some 34, .bin .eql (.t 31) (.t 33), none⟩]) (.kl [31, 32, 33] (.cond (.t 34) (.kl [7, 34] (.reg [⟨some 7, .mov (.c (.int .i64 1)), none⟩])) (.kl [34] (.seq (.reg [⟨some 35, .mov (.t 1), none⟩, ⟨some 36, .call 119 [.t 35, .c (.bool true), .c (.bool true)], none⟩, ⟨some 37, .lenV (.t 36), none⟩, ⟨some 38, .mov (.c (.int .i64 0)), none⟩]) (.kl [35] (.blk 2 (.loop lp244_1)))))))) (.seq (.reg [⟨some 50, .mov (.t 0), none⟩, ⟨some 51, .mov (.t 0), none⟩, ⟨some 52, .nck (.t 51), none⟩, ⟨some 53, .faddr 0 1 (.t 52), none⟩, ⟨some 54, .load false 1 (.t 53), none⟩, ⟨some 55, .mov (.t 1), none⟩, ⟨some 56, .lit 1 1 [.str []] [(0, 1, .t 55)], none⟩, ⟨some 57, .app 1 (.t 54) (.t 56), none⟩, ⟨some 58, .nck (.t 50), none⟩, ⟨some 59, .faddr 0 1 (.t 58), none⟩, ⟨none, .store 1 (.t 59) (.t 57), none⟩]) (.kl [1, 50, 51, 52, 53, 54, 55, 56, 57, 58, 59] (.seq (.reg [⟨some 60, .mov (.t 0), none⟩, ⟨some 61, .mov (.t 0), none⟩, ⟨some 62, .nck (.t 61), none⟩, ⟨some 63, .faddr 1 1 (.t 62), none⟩, ⟨some 64, .load false 1 (.t 63), none⟩, ⟨some 65, .mov (.t 7), none⟩, ⟨some 66, .lit 1 1 [.int .i64 0] [(0, 1, .t 65)], none⟩, ⟨some 67, .app 1 (.t 64) (.t 66), none⟩, ⟨some 68, .nck (.t 60), none⟩, ⟨some 69, .faddr 1 1 (.t 68), none⟩, ⟨none, .store 1 (.t 69) (.t 67), none⟩]) (.kl [0, 60, 61, 62, 63, 64, 65, 66, 67, 68, 69] (.seq (.reg [⟨some 70, .mov (.t 7), none⟩, ⟨some 4, .mov (.t 70), none⟩]) (.kl [7, 70] (.ret))))))))))), [.tmp 4]⟩
/-- spec.liMake -/
def fi66 : FI := ⟨.seq (.reg [⟨some 3, .box (.t 1), none⟩, ⟨some 4, .mov (.c (.str [])), none⟩]) (.kl [1, 4] (.seq (.reg [⟨some 6, .mov (.t 0), none⟩, ⟨some 7, .faddr 0 1 (.t 3), none⟩, ⟨some 8, .load false 1 (.t 7), none⟩, ⟨some 9, .faddr 0 1 (.t 3), none⟩, ⟨some 10, .load false 1 (.t 9), none⟩, ⟨some 11, .bin .add (.t 10) (.c (.int .i64 1)), none⟩, ⟨some 12, .subS (.t 6) (some (.t 8)) (some (.t 11)), none⟩, ⟨some 5, .mov (.t 12), none⟩]) (.kl [6, 7, 8, 9, 10, 11, 12] (.seq (.drw [⟨some 13, .mov (.t 0), none⟩, ⟨some 14, .faddr 0 1 (.t 3), none⟩, ⟨some 15, .load false 1 (.t 14), none⟩, ⟨some 16, .call 108 [.t 13, .t 15, .c (.str [46])], none⟩, ⟨some 17, .faddr 1 1 (.t 3), none⟩, ⟨some 18, .load false 1 (.t 17), none⟩, ⟨some 19, .mov (.t 5), none⟩, ⟨some 20, .call 108 [.t 16, .t 18, .t 19], none⟩, ⟨some 4, .mov (.t 20), none⟩] [(5, 3)]) (.kl [0, 3, 5, 13, 14, 15, 16, 17, 18, 19, 20] (.ret)))))), [.tmp 4]⟩
/-- impl.isLineOf -/
def fi82 : FI := ⟨.seq (.reg [⟨some 4, .mov (.c (.bool false)), none⟩]) (.kl [4] (.seq (.reg [⟨some 5, .mov (.t 0), none⟩, ⟨some 6, .lenS (.t 5), none⟩, ⟨some 7, .mov (.t 1), none⟩, ⟨some 8, .call 74 [.t 6, .c (.int .i64 1), .t 7], none⟩, ⟨some 9, .mov (.t 8), none⟩, ⟨some 10, .mov (.t 0), some (9, true)⟩, ⟨some 11, .call 111 [.t 10, .c (.str [46, 70, 84])], some (9, true)⟩, ⟨some 12, .bin .eql (.t 11) (.c (.str [])), some (9, true)⟩, ⟨some 13, .pick (.t 9) (.t 12) (.c (.bool false)), none⟩, ⟨some 4, .mov (.t 13), none⟩]) (.kl [0, 1, 5, 6, 7, 8, 9, 10, 11, 12, 13] (.ret)))), [.tmp 4]⟩
/-- impl.isLive -/
def fi245 : FI := ⟨.seq (.reg [⟨some 2, .mov (.c (.bool false)), none⟩]) (.kl [2] (.seq (.reg [⟨some 7, .mov (.t 0), none⟩, ⟨some 8, .call 189 [.t 7], none⟩, ⟨some 6, .mov (.t 8), none⟩, ⟨some 9, .prj 0 (.t 6), none⟩, ⟨some 10, .prj 1 (.t 6), none⟩, ⟨some 11, .prj 2 (.t 6), none⟩, ⟨some 3, .mov (.t 9), none⟩, ⟨some 4, .mov (.t 10), none⟩, ⟨some 5, .mov (.t 11), none⟩]) (.kl [6, 7, 8, 9, 10, 11] (.seq (.reg [⟨some 12, .mov (.t 0), none⟩, ⟨some 13, .call 237 [.t 12], none⟩, ⟨some 14, .call 238 [.t 13], none⟩, ⟨some 15, .mov (.t 0), none⟩, ⟨some 16, .call 252 [.t 14, .t 15], none⟩, ⟨some 17, .bin .gtr (.t 16) (.c (.int .i64 0)), none⟩, ⟨some 18, .mov (.t 17), none⟩, ⟨some 19, .mov (.t 0), some (18, true)⟩, ⟨some 20, .call 238 [.t 19], some (18, true)⟩, ⟨some 21, .mov (.t 3), some (18, true)⟩, ⟨some 22, .mov (.t 4), some (18, true)⟩, ⟨some 23, .mov (.t 5), some (18, true)⟩, ⟨some 24, .call 253 [.t 21, .t 22, .t 23], some (18, true)⟩, ⟨some 25, .call 252 [.t 20, .t 24], some (18, true)⟩, ⟨some 26, .bin .gtr (.t 25) (.c (.int .i64 0)), some (18, true)⟩, ⟨some 27, .pick (.t 18) (.t 26) (.c (.bool false)), none⟩, ⟨some 2, .mov (.t 27), none⟩]) (.kl [0, 3, 4, 5, 12, 13, 14, 15, 16, 17, 18, 19, 20, 21, 22, 23, 24, 25, 26, 27] (.ret)))))), [.tmp 2]⟩
/-- impl.count -/
def fi189 : FI := ⟨.seq (.reg [⟨some 2, .mov (.c (.int .i64 0)), none⟩, ⟨some 3, .mov (.c (.int .i64 0)), none⟩, ⟨some 4, .mov (.c (.int .i64 0)), none⟩]) (.kl [2, 3, 4] (.seq (.reg [⟨some 5, .mov (.t 0), none⟩, ⟨some 6, .call 131 [.t 5, .c (.str [84])], none⟩, ⟨some 7, .mov (.t 0), none⟩, ⟨some 8, .call 131 [.t 7, .c (.str [46])], none⟩, ⟨some 9, .mov (.t 0), none⟩, ⟨some 10, .call 131 [.t 9, .c (.str [70])], none⟩, ⟨some 2, .mov (.t 6), none⟩, ⟨some 3, .mov (.t 8), none⟩, ⟨some 4, .mov (.t 10), none⟩]) (.kl [0, 5, 6, 7, 8, 9, 10] (.ret)))), [.tmp 2, .tmp 3, .tmp 4]⟩
/-- impl.ordered -/
def fi246 : FI := ⟨.seq (.reg [⟨some 10, .mov (.c (.str [])), none⟩]) (.kl [10] (.seq (.reg [⟨some 11, .mov (.t 0), none⟩, ⟨some 12, .ofR (.t 11), none⟩, ⟨some 13, .mov (.t 1), none⟩, ⟨some 14, .call 123 [.t 12, .t 13], none⟩, ⟨some 15, .mov (.t 2), none⟩, ⟨some 16, .call 123 [.c (.str [46]), .t 15], none⟩, ⟨some 17, .bin .add (.t 14) (.t 16), none⟩, ⟨some 18, .mov (.t 3), none⟩, ⟨some 19, .ofR (.t 18), none⟩, ⟨some 20, .mov (.t 4), none⟩, ⟨some 21, .call 123 [.t 19, .t 20], none⟩, ⟨some 22, .bin .add (.t 17) (.t 21), none⟩, ⟨some 10, .mov (.t 22), none⟩]) (.kl [0, 1, 2, 3, 4, 11, 12, 13, 14, 15, 16, 17, 18, 19, 20, 21, 22] (.ret)))), [.tmp 10]⟩
-- lp248_0 HEAD [0, 1, 5, 6] | exit 0: [0, 5]
/-- slices.DeleteFunc[[]impl.Move,impl.Move] -/
def lb248_0 : C := .kl [20, 21] (.seq (.seq (.reg [⟨some 16, .mov (.t 6), none⟩, ⟨some 17, .mov (.t 0), none⟩, ⟨some 18, .lenV (.t 17), none⟩, ⟨some 19, .bin .lss (.t 16) (.t 18), none⟩]) (.kl [16, 17, 18] (.cond (.t 19) (.skip) (.kl [1, 6, 19] (.exit 0))))) (.kl [19] (.seq (.blk 1 (.seq (.reg [⟨some 22, .mov (.t 0), none⟩, ⟨some 23, .mov (.t 6), none⟩, ⟨some 24, .iaddr 2 (.t 22) (.t 23), none⟩, ⟨some 25, .load true 2 (.t 24), none⟩, ⟨some 7, .new [.int .i64 0, .int .i64 0], none⟩, ⟨none, .store 2 (.t 7) (.t 25), none⟩]) (.kl [22, 23, 24, 25] (.seq (.reg [⟨some 26, .mov (.t 1), none⟩, ⟨some 27, .load true 2 (.t 7), none⟩, ⟨some 28, .callv (.t 26) [.t 27], none⟩, ⟨some 29, .un .not (.t 28), none⟩]) (.kl [26, 27, 28] (.cond (.t 29) (.kl [29] (.seq (.reg [⟨some 30, .mov (.t 0), none⟩, ⟨some 31, .mov (.t 5), none⟩, ⟨some 32, .load true 2 (.t 7), none⟩, ⟨some 33, .iaddr 2 (.t 30) (.t 31), none⟩, ⟨none, .store 2 (.t 33) (.t 32), none⟩]) (.kl [7, 30, 31, 32, 33] (.reg [⟨some 34, .mov (.t 5), none⟩, ⟨some 35, .bin .add (.t 34) (.c (.int .i64 1)), none⟩, ⟨some 5, .mov (.t 35), none⟩])))) (.skip))))))) (.kl [7, 29, 34, 35] (.reg [⟨some 20, .mov (.t 6), none⟩, ⟨some 21, .bin .add (.t 20) (.c (.int .i64 1)), none⟩, ⟨some 6, .mov (.t 21), none⟩])))))
def lp248_0 : C := lb248_0
def fi248 : FI := ⟨.seq (.reg [⟨some 4, .mov (.c (.nilS)), none⟩]) (.kl [4] (.seq (.reg [⟨some 8, .mov (.t 0), none⟩, ⟨some 9, .mov (.t 1), none⟩, ⟨some 10, .call 205 [.t 8, .t 9], none⟩, ⟨some 5, .mov (.t 10), none⟩]) (.kl [8, 9, 10] (.seq (.seq (.reg [⟨some 11, .mov (.t 5), none⟩, ⟨some 12, .bin .eql (.t 11) (.c (.int .i64 (-1))), none⟩]) (.kl [11] (.cond (.t 12) (.kl [1, 5, 12] (.seq (.reg [⟨some 13, .mov (.t 0), none⟩, ⟨some 4, .mov (.t 13), none⟩]) (.kl [0, 13] (.ret)))) (.skip)))) (.kl [12] (.seq (.seq (.reg [⟨some 14, .mov (.t 5), none⟩, ⟨some 15, .bin .add (.t 14) (.c (.int .i64 1)), none⟩, ⟨some 6, .mov (.t 15), none⟩]) (.kl [14, 15] (.blk 0 (.loop lp248_0)))) (.seq (.reg [⟨some 36, .mov (.t 0), none⟩, ⟨some 37, .mov (.t 5), none⟩, ⟨some 38, .sub 2 (.t 36) (some (.t 37)) none, none⟩, ⟨none, .clr [.int .i64 0, .int .i64 0] (.t 38), none⟩]) (.kl [36, 37, 38] (.seq (.reg [⟨some 39, .mov (.t 0), none⟩, ⟨some 40, .mov (.t 5), none⟩, ⟨some 41, .sub 2 (.t 39) none (some (.t 40)), none⟩, ⟨some 4, .mov (.t 41), none⟩]) (.kl [0, 5, 39, 40, 41] (.ret))))))))))), [.tmp 4]⟩
-- lp105_0 HEAD [0, 1, 5, 11, 12] | exit 0: [5]
/-- impl.moves -/
def lb105_0 : C := .kl [37] (.seq (.reg [⟨some 13, .bin .lss (.t 12) (.t 11), none⟩]) (.seq (.cond (.t 13) (.skip) (.kl [0, 1, 11, 12, 13] (.exit 0))) (.kl [13] (.seq (.blk 1 (.seq (.reg [⟨some 14, .mov (.t 12), none⟩, ⟨some 6, .mov (.t 14), none⟩]) (.kl [14] (.seq (.reg [⟨some 16, .mov (.t 0), none⟩, ⟨some 17, .mov (.t 6), none⟩, ⟨some 18, .call 127 [.t 16, .t 17], none⟩, ⟨some 15, .mov (.t 18), none⟩, ⟨some 19, .prj 0 (.t 15), none⟩, ⟨some 20, .prj 1 (.t 15), none⟩, ⟨some 7, .mov (.t 19), none⟩, ⟨some 8, .mov (.t 20), none⟩]) (.kl [15, 16, 17, 18, 19, 20] (.seq (.reg [⟨some 21, .mov (.t 8), none⟩, ⟨some 22, .mov (.t 21), none⟩, ⟨some 23, .mov (.t 1), some (22, true)⟩, ⟨some 24, .mov (.t 0), some (22, true)⟩, ⟨some 25, .mov (.t 6), some (22, true)⟩, ⟨some 26, .mov (.t 6), some (22, true)⟩, ⟨some 27, .bin .add (.t 26) (.c (.int .i64 1)), some (22, true)⟩, ⟨some 28, .subS (.t 24) (some (.t 25)) (some (.t 27)), some (22, true)⟩, ⟨some 29, .call 126 [.t 23, .t 28], some (22, true)⟩, ⟨some 30, .pick (.t 22) (.t 29) (.c (.bool false)), none⟩]) (.kl [8, 21, 22, 23, 24, 25, 26, 27, 28, 29] (.cond (.t 30) (.kl [30] (.reg [⟨some 31, .mov (.t 5), none⟩, ⟨some 32, .mov (.t 6), none⟩, ⟨some 33, .mov (.t 7), none⟩, ⟨some 34, .build [.int .i64 0, .int .i64 0] [(0, 1, .t 32), (1, 1, .t 33)], none⟩, ⟨some 35, .lit 2 1 [.int .i64 0, .int .i64 0] [(0, 2, .t 34)], none⟩, ⟨some 36, .app 2 (.t 31) (.t 35), none⟩, ⟨some 5, .mov (.t 36), none⟩])) (.skip))))))))) (.kl [6, 7, 30, 31, 32, 33, 34, 35, 36] (.reg [⟨some 37, .bin .add (.t 12) (.c (.int .i64 1)), none⟩, ⟨some 12, .mov (.t 37), none⟩]))))))
def lp105_0 : C := lb105_0
def fi105 : FI := ⟨.seq (.reg [⟨some 4, .mov (.c (.nilS)), none⟩]) (.kl [4] (.seq (.reg [⟨some 9, .lit0, none⟩, ⟨some 5, .mov (.t 9), none⟩]) (.kl [9] (.seq (.seq (.reg [⟨some 10, .mov (.t 0), none⟩, ⟨some 11, .lenS (.t 10), none⟩, ⟨some 12, .mov (.c (.int .i64 0)), none⟩]) (.kl [10] (.blk 0 (.loop lp105_0)))) (.seq (.reg [⟨some 38, .mov (.t 5), none⟩, ⟨some 4, .mov (.t 38), none⟩]) (.kl [5, 38] (.ret))))))), [.tmp 4]⟩
/-- (impl.swaps).live$1 -/
def fi247 : FI := ⟨.seq (.reg [⟨some 3, .box (.t 0), none⟩, ⟨some 4, .mov (.c (.bool false)), none⟩]) (.kl [0, 4] (.seq (.drw [⟨some 5, .load true 2 (.t 1), none⟩, ⟨some 6, .load false 1 (.t 2), none⟩, ⟨some 7, .load true 2 (.t 3), none⟩, ⟨some 8, .call 61 [.t 6, .t 7], none⟩, ⟨some 9, .call 252 [.t 5, .t 8], none⟩, ⟨some 10, .bin .eql (.t 9) (.c (.int .i64 0)), none⟩, ⟨some 4, .mov (.t 10), none⟩] [(0, 3)]) (.kl [1, 2, 3, 5, 6, 7, 8, 9, 10] (.ret)))), [.tmp 4]⟩
-- lp252_0 HEAD [1, 2, 7, 20, 21, 22] | exit 0: [1, 2, 7]
/-- (impl.swaps).from -/
def lb252_0 : C := .kl [33] (.seq (.reg [⟨some 23, .bin .lss (.t 22) (.t 21), none⟩]) (.seq (.cond (.t 23) (.skip) (.kl [20, 21, 22, 23] (.exit 0))) (.kl [23] (.seq (.blk 1 (.seq (.reg [⟨some 24, .iaddr 2 (.t 20) (.t 22), none⟩, ⟨some 25, .load true 2 (.t 24), none⟩, ⟨some 9, .new [.int .i64 0, .int .i64 0], none⟩, ⟨none, .store 2 (.t 9) (.t 25), none⟩]) (.kl [24, 25] (.drw [⟨some 26, .mov (.t 7), none⟩, ⟨some 27, .load true 2 (.t 2), none⟩, ⟨some 28, .mov (.t 1), none⟩, ⟨some 29, .load true 2 (.t 9), none⟩, ⟨some 30, .call 61 [.t 28, .t 29], none⟩, ⟨some 31, .call 252 [.t 27, .t 30], none⟩, ⟨some 32, .bin .add (.t 26) (.t 31), none⟩, ⟨some 7, .mov (.t 32), none⟩] [(1, 4)])))) (.kl [9, 26, 27, 28, 29, 30, 31, 32] (.reg [⟨some 33, .bin .add (.t 22) (.c (.int .i64 1)), none⟩, ⟨some 22, .mov (.t 33), none⟩]))))))
def lp252_0 : C := lb252_0
def fi252 : FI := ⟨.seq (.reg [⟨some 2, .box (.t 0), none⟩, ⟨some 4, .mov (.c (.int .i64 0)), none⟩]) (.kl [0, 4] (.seq (.seq (.reg [⟨some 11, .faddr 1 1 (.t 2), none⟩, ⟨some 12, .load false 1 (.t 11), none⟩, ⟨some 13, .mov (.t 1), none⟩, ⟨some 14, .look 1 (.int .i64 0) true (.t 12) (.t 13), none⟩, ⟨some 10, .mov (.t 14), none⟩, ⟨some 15, .prj 0 (.t 10), none⟩, ⟨some 16, .prj 1 (.t 10), none⟩, ⟨some 5, .mov (.t 15), none⟩, ⟨some 6, .mov (.t 16), none⟩]) (.kl [10, 11, 12, 13, 14, 15, 16] (.seq (.reg [⟨some 17, .mov (.t 6), none⟩]) (.kl [6] (.cond (.t 17) (.kl [1, 2, 17] (.seq (.reg [⟨some 18, .mov (.t 5), none⟩, ⟨some 4, .mov (.t 18), none⟩]) (.kl [5, 18] (.ret)))) (.skip)))))) (.kl [5, 17] (.seq (.reg [⟨some 7, .mov (.c (.int .i64 0)), none⟩]) (.seq (.seq (.reg [⟨some 19, .mov (.t 1), none⟩, ⟨some 20, .call 105 [.t 19, .c (.str [84, 70])], none⟩, ⟨some 21, .lenV (.t 20), none⟩, ⟨some 22, .mov (.c (.int .i64 0)), none⟩]) (.kl [19] (.blk 0 (.loop lp252_0)))) (.seq (.reg [⟨some 34, .faddr 1 1 (.t 2), none⟩, ⟨some 35, .load false 1 (.t 34), none⟩, ⟨some 36, .mov (.t 1), none⟩, ⟨some 37, .mov (.t 7), none⟩, ⟨none, .mset 1 (.t 35) (.t 36) (.t 37), none⟩]) (.kl [1, 2, 34, 35, 36, 37] (.seq (.reg [⟨some 38, .mov (.t 7), none⟩, ⟨some 4, .mov (.t 38), none⟩]) (.kl [7, 38] (.ret)))))))))), [.tmp 4]⟩
/-- impl.made -/
def fi61 : FI := ⟨.seq (.reg [⟨some 3, .box (.t 1), none⟩, ⟨some 4, .mov (.c (.str [])), none⟩]) (.kl [1, 4] (.seq (.reg [⟨some 6, .mov (.t 0), none⟩, ⟨some 7, .toB (.t 6), none⟩, ⟨some 5, .mov (.t 7), none⟩]) (.kl [0, 6, 7] (.seq (.drw [⟨some 8, .mov (.t 5), none⟩, ⟨some 9, .faddr 1 1 (.t 3), none⟩, ⟨some 10, .load false 1 (.t 9), none⟩, ⟨some 11, .mov (.t 5), none⟩, ⟨some 12, .faddr 0 1 (.t 3), none⟩, ⟨some 13, .load false 1 (.t 12), none⟩, ⟨some 14, .mov (.t 5), none⟩, ⟨some 15, .faddr 0 1 (.t 3), none⟩, ⟨some 16, .load false 1 (.t 15), none⟩, ⟨some 17, .iaddr 1 (.t 14) (.t 16), none⟩, ⟨some 18, .load false 1 (.t 17), none⟩, ⟨some 19, .iaddr 1 (.t 8) (.t 10), none⟩, ⟨none, .store 1 (.t 19) (.t 18), none⟩, ⟨some 20, .iaddr 1 (.t 11) (.t 13), none⟩, ⟨none, .store 1 (.t 20) (.c (.int .u8 46)), none⟩] [(5, 12)]) (.kl [3, 8, 9, 10, 11, 12, 13, 14, 15, 16, 17, 18, 19, 20] (.seq (.reg [⟨some 21, .mov (.t 5), none⟩, ⟨some 22, .ofB (.t 21), none⟩, ⟨some 4, .mov (.t 22), none⟩]) (.kl [5, 21, 22] (.ret)))))))), [.tmp 4]⟩
-- lp118_0 HEAD [3] | exit 2: [3, 4] | exit 4: [3, 4, 17, 18, 19] | ret: [2]
-- lp118_1 HEAD [3, 4, 17, 18, 19] | exit 2: [3, 4] | exit 4: [3, 4, 17, 18, 19]
-- lp118_2 HEAD [3, 4, 6, 17, 18, 19, 24, 25, 26] | exit 4: [3, 4, 17, 18, 19]
/-- spec.reLayers -/
def lb118_2 : C := .kl [35] (.seq (.reg [⟨some 27, .bin .lss (.t 26) (.t 25), none⟩]) (.seq (.cond (.t 27) (.skip) (.kl [6, 24, 25, 26, 27] (.exit 4))) (.kl [27] (.seq (.blk 5 (.seq (.reg [⟨some 28, .iaddr 2 (.t 24) (.t 26), none⟩, ⟨some 29, .load true 2 (.t 28), none⟩, ⟨some 8, .new [.int .i64 0, .int .i64 0], none⟩, ⟨none, .store 2 (.t 8) (.t 29), none⟩]) (.kl [28, 29] (.reg [⟨some 30, .mov (.t 4), none⟩, ⟨some 31, .mov (.t 6), none⟩, ⟨some 32, .load true 2 (.t 8), none⟩, ⟨some 33, .call 66 [.t 31, .t 32], none⟩, ⟨some 34, .call 129 [.t 30, .t 33], none⟩, ⟨some 4, .mov (.t 34), none⟩])))) (.kl [8, 30, 31, 32, 33, 34] (.reg [⟨some 35, .bin .add (.t 26) (.c (.int .i64 1)), none⟩, ⟨some 26, .mov (.t 35), none⟩]))))))
def lp118_2 : C := lb118_2
def lb118_1 : C := .kl [36] (.seq (.reg [⟨some 20, .bin .lss (.t 19) (.t 18), none⟩]) (.seq (.cond (.t 20) (.skip) (.kl [17, 18, 19, 20] (.exit 2))) (.kl [20] (.seq (.blk 3 (.seq (.reg [⟨some 21, .iaddr 1 (.t 17) (.t 19), none⟩, ⟨some 22, .load false 1 (.t 21), none⟩, ⟨some 6, .mov (.t 22), none⟩]) (.kl [21, 22] (.seq (.reg [⟨some 23, .mov (.t 6), none⟩, ⟨some 24, .call 119 [.t 23, .c (.bool true), .c (.bool true)], none⟩, ⟨some 25, .lenV (.t 24), none⟩, ⟨some 26, .mov (.c (.int .i64 0)), none⟩]) (.kl [23] (.blk 4 (.loop lp118_2))))))) (.reg [⟨some 36, .bin .add (.t 19) (.c (.int .i64 1)), none⟩, ⟨some 19, .mov (.t 36), none⟩])))))
def lp118_1 : C := lb118_1
def lb118_0 : C := .kl [4, 41, 42, 43, 44] (.blk 1 (.seq (.reg [⟨some 4, .mov (.c (.nilS)), none⟩]) (.seq (.seq (.reg [⟨some 12, .mov (.t 3), none⟩, ⟨some 13, .mov (.t 3), none⟩, ⟨some 14, .lenV (.t 13), none⟩, ⟨some 15, .bin .sub (.t 14) (.c (.int .i64 1)), none⟩, ⟨some 16, .iaddr 1 (.t 12) (.t 15), none⟩, ⟨some 17, .load false 1 (.t 16), none⟩, ⟨some 18, .lenV (.t 17), none⟩, ⟨some 19, .mov (.c (.int .i64 0)), none⟩]) (.kl [12, 13, 14, 15, 16] (.blk 2 (.loop lp118_1)))) (.seq (.seq (.reg [⟨some 37, .mov (.t 4), none⟩, ⟨some 38, .lenV (.t 37), none⟩, ⟨some 39, .bin .eql (.t 38) (.c (.int .i64 0)), none⟩]) (.kl [37, 38] (.cond (.t 39) (.kl [4, 39] (.seq (.reg [⟨some 40, .mov (.t 3), none⟩, ⟨some 2, .mov (.t 40), none⟩]) (.kl [3, 40] (.ret)))) (.skip)))) (.kl [39] (.reg [⟨some 41, .mov (.t 3), none⟩, ⟨some 42, .mov (.t 4), none⟩, ⟨some 43, .lit 1 1 [.nilS] [(0, 1, .t 42)], none⟩, ⟨some 44, .app 1 (.t 41) (.t 43), none⟩, ⟨some 3, .mov (.t 44), none⟩]))))))
def lp118_0 : C := lb118_0
def fi118 : FI := ⟨.seq (.reg [⟨some 2, .mov (.c (.nilS)), none⟩]) (.kl [2] (.seq (.reg [⟨some 9, .mov (.t 0), none⟩, ⟨some 10, .lit 1 1 [.str []] [(0, 1, .t 9)], none⟩, ⟨some 11, .lit 1 1 [.nilS] [(0, 1, .t 10)], none⟩, ⟨some 3, .mov (.t 11), none⟩]) (.kl [0, 9, 10, 11] (.blk 0 (.loop lp118_0))))), [.tmp 2]⟩
-- lp129_0 HEAD [0, 1, 5, 6] | exit 0: [0, 1, 5]
/-- spec.reAdd -/
def lb129_0 : C := .kl [7, 24, 25, 26] (.seq (.seq (.reg [⟨some 11, .mov (.t 5), none⟩, ⟨some 12, .mov (.t 6), none⟩, ⟨some 13, .bin .lss (.t 11) (.t 12), none⟩]) (.kl [11, 12] (.cond (.t 13) (.skip) (.kl [6, 13] (.exit 0))))) (.kl [13] (.blk 1 (.seq (.reg [⟨some 14, .mov (.t 5), none⟩, ⟨some 15, .mov (.t 6), none⟩, ⟨some 16, .bin .add (.t 14) (.t 15), none⟩, ⟨some 17, .bin .quo (.t 16) (.c (.int .i64 2)), none⟩, ⟨some 7, .mov (.t 17), none⟩]) (.kl [14, 15, 16, 17] (.seq (.reg [⟨some 18, .mov (.t 0), none⟩, ⟨some 19, .mov (.t 7), none⟩, ⟨some 20, .iaddr 1 (.t 18) (.t 19), none⟩, ⟨some 21, .load false 1 (.t 20), none⟩, ⟨some 22, .mov (.t 1), none⟩, ⟨some 23, .bin .lss (.t 21) (.t 22), none⟩]) (.kl [18, 19, 20, 21, 22] (.cond (.t 23) (.kl [5, 23] (.reg [⟨some 24, .mov (.t 7), none⟩, ⟨some 25, .bin .add (.t 24) (.c (.int .i64 1)), none⟩, ⟨some 5, .mov (.t 25), none⟩])) (.kl [6, 23] (.reg [⟨some 26, .mov (.t 7), none⟩, ⟨some 6, .mov (.t 26), none⟩]))))))))))
def lp129_0 : C := lb129_0
def fi129 : FI := ⟨.seq (.reg [⟨some 4, .mov (.c (.nilS)), none⟩]) (.kl [4] (.seq (.reg [⟨some 9, .mov (.t 0), none⟩, ⟨some 10, .lenV (.t 9), none⟩, ⟨some 5, .mov (.c (.int .i64 0)), none⟩, ⟨some 6, .mov (.t 10), none⟩]) (.kl [9, 10] (.seq (.blk 0 (.loop lp129_0)) (.seq (.seq (.reg [⟨some 27, .mov (.t 5), none⟩, ⟨some 28, .mov (.t 0), none⟩, ⟨some 29, .lenV (.t 28), none⟩, ⟨some 30, .bin .lss (.t 27) (.t 29), none⟩, ⟨some 31, .mov (.t 30), none⟩, ⟨some 32, .mov (.t 0), some (31, true)⟩, ⟨some 33, .mov (.t 5), some (31, true)⟩, ⟨some 34, .iaddr 1 (.t 32) (.t 33), some (31, true)⟩, ⟨some 35, .load false 1 (.t 34), some (31, true)⟩, ⟨some 36, .mov (.t 1), some (31, true)⟩, ⟨some 37, .bin .eql (.t 35) (.t 36), some (31, true)⟩, ⟨some 38, .pick (.t 31) (.t 37) (.c (.bool false)), none⟩]) (.kl [27, 28, 29, 30, 31, 32, 33, 34, 35, 36, 37] (.cond (.t 38) (.kl [1, 5, 38] (.seq (.reg [⟨some 39, .mov (.t 0), none⟩, ⟨some 4, .mov (.t 39), none⟩]) (.kl [0, 39] (.ret)))) (.skip)))) (.kl [38] (.seq (.reg [⟨some 40, .lit0, none⟩, ⟨some 41, .mov (.t 0), none⟩, ⟨some 42, .mov (.t 5), none⟩, ⟨some 43, .sub 1 (.t 41) none (some (.t 42)), none⟩, ⟨some 44, .app 1 (.t 40) (.t 43), none⟩, ⟨some 45, .mov (.t 1), none⟩, ⟨some 46, .lit 1 1 [.str []] [(0, 1, .t 45)], none⟩, ⟨some 47, .app 1 (.t 44) (.t 46), none⟩, ⟨some 8, .mov (.t 47), none⟩]) (.kl [1, 40, 41, 42, 43, 44, 45, 46, 47] (.seq (.reg [⟨some 48, .mov (.t 8), none⟩, ⟨some 49, .mov (.t 0), none⟩, ⟨some 50, .mov (.t 5), none⟩, ⟨some 51, .sub 1 (.t 49) (some (.t 50)) none, none⟩, ⟨some 52, .app 1 (.t 48) (.t 51), none⟩, ⟨some 4, .mov (.t 52), none⟩]) (.kl [0, 5, 8, 48, 49, 50, 51, 52] (.ret))))))))))), [.tmp 4]⟩
/-- spec.liLast -/
def fi251 : FI := ⟨.seq (.reg [⟨some 2, .mov (.c (.str [])), none⟩]) (.kl [2] (.seq (.reg [⟨some 3, .mov (.t 0), none⟩, ⟨some 4, .call 116 [.t 3, .c (.int .u8 70)], none⟩, ⟨some 5, .call 124 [.c (.str [70]), .t 4], none⟩, ⟨some 6, .mov (.t 0), none⟩, ⟨some 7, .call 116 [.t 6, .c (.int .u8 46)], none⟩, ⟨some 8, .call 124 [.c (.str [46]), .t 7], none⟩, ⟨some 9, .bin .add (.t 5) (.t 8), none⟩, ⟨some 10, .mov (.t 0), none⟩, ⟨some 11, .call 116 [.t 10, .c (.int .u8 84)], none⟩, ⟨some 12, .call 124 [.c (.str [84]), .t 11], none⟩, ⟨some 13, .bin .add (.t 9) (.t 12), none⟩, ⟨some 2, .mov (.t 13), none⟩]) (.kl [0, 3, 4, 5, 6, 7, 8, 9, 10, 11, 12, 13] (.ret)))), [.tmp 2]⟩
-- lp302_0 HEAD [0, 1, 5, 6] | exit 0: [5]
/-- spec.liSum -/
def lb302_0 : C := .kl [11, 12] (.seq (.seq (.reg [⟨some 7, .mov (.t 6), none⟩, ⟨some 8, .mov (.t 0), none⟩, ⟨some 9, .lenS (.t 8), none⟩, ⟨some 10, .bin .lss (.t 7) (.t 9), none⟩]) (.kl [7, 8, 9] (.cond (.t 10) (.skip) (.kl [0, 1, 6, 10] (.exit 0))))) (.kl [10] (.seq (.blk 1 (.seq (.reg [⟨some 13, .mov (.t 0), none⟩, ⟨some 14, .mov (.t 6), none⟩, ⟨some 15, .idxS (.t 13) (.t 14), none⟩, ⟨some 16, .mov (.t 1), none⟩, ⟨some 17, .bin .eql (.t 15) (.t 16), none⟩]) (.kl [13, 14, 15, 16] (.cond (.t 17) (.kl [17] (.reg [⟨some 18, .mov (.t 5), none⟩, ⟨some 19, .mov (.t 6), none⟩, ⟨some 20, .bin .add (.t 18) (.t 19), none⟩, ⟨some 5, .mov (.t 20), none⟩])) (.skip))))) (.kl [17, 18, 19, 20] (.reg [⟨some 11, .mov (.t 6), none⟩, ⟨some 12, .bin .add (.t 11) (.c (.int .i64 1)), none⟩, ⟨some 6, .mov (.t 12), none⟩])))))
def lp302_0 : C := lb302_0
def fi302 : FI := ⟨.seq (.reg [⟨some 4, .mov (.c (.int .i64 0)), none⟩]) (.kl [4] (.seq (.reg [⟨some 5, .mov (.c (.int .i64 0)), none⟩]) (.seq (.seq (.reg [⟨some 6, .mov (.c (.int .i64 0)), none⟩]) (.blk 0 (.loop lp302_0))) (.seq (.reg [⟨some 21, .mov (.t 5), none⟩, ⟨some 4, .mov (.t 21), none⟩]) (.kl [5, 21] (.ret)))))), [.tmp 4]⟩
/-- slices.Collect[string] -/
def fi303 : FI := ⟨.seq (.reg [⟨some 2, .mov (.c (.nilS)), none⟩]) (.kl [2] (.seq (.reg [⟨some 3, .mov (.t 0), none⟩, ⟨some 4, .call 308 [.c (.nilS), .t 3], none⟩, ⟨some 2, .mov (.t 4), none⟩]) (.kl [0, 3, 4] (.ret)))), [.tmp 2]⟩
-- lp304_0 HEAD [0, 5]
/-- maps.Keys[map[string]int,string,int]$1 -/
def lb304_0 : C := .kl [] (.bad)
def lp304_0 : C := lb304_0
def fi304 : FI := ⟨.seq (.reg [⟨some 4, .load false 1 (.t 1), none⟩, ⟨some 5, .rngM (.t 4), none⟩]) (.kl [1, 4] (.blk 0 (.loop lp304_0))), []⟩
/-- cmp.isNaN[int] -/
def fi307 : FI := ⟨.seq (.reg [⟨some 2, .mov (.c (.bool false)), none⟩]) (.kl [2] (.seq (.reg [⟨some 3, .mov (.t 0), none⟩, ⟨some 4, .mov (.t 0), none⟩, ⟨some 5, .bin .neq (.t 3) (.t 4), none⟩, ⟨some 2, .mov (.t 5), none⟩]) (.kl [0, 3, 4, 5] (.ret)))), [.tmp 2]⟩
/-- spec.l1In -/
def fi77 : FI := ⟨.seq (.reg [⟨some 6, .mov (.c (.bool false)), none⟩]) (.kl [6] (.seq (.reg [⟨some 7, .mov (.t 0), none⟩, ⟨some 8, .mov (.t 1), none⟩, ⟨some 9, .bin .geq (.t 7) (.t 8), none⟩, ⟨some 10, .mov (.t 9), none⟩, ⟨some 11, .mov (.t 0), some (10, true)⟩, ⟨some 12, .mov (.t 2), some (10, true)⟩, ⟨some 13, .bin .leq (.t 11) (.t 12), some (10, true)⟩, ⟨some 14, .pick (.t 10) (.t 13) (.c (.bool false)), none⟩, ⟨some 6, .mov (.t 14), none⟩]) (.kl [0, 1, 2, 7, 8, 9, 10, 11, 12, 13, 14] (.ret)))), [.tmp 6]⟩
/-- spec.liFirst -/
def fi100 : FI := ⟨.seq (.reg [⟨some 6, .mov (.c (.str [])), none⟩]) (.kl [6] (.seq (.reg [⟨some 7, .mov (.t 0), none⟩, ⟨some 8, .call 124 [.c (.str [84]), .t 7], none⟩, ⟨some 9, .mov (.t 1), none⟩, ⟨some 10, .call 124 [.c (.str [46]), .t 9], none⟩, ⟨some 11, .bin .add (.t 8) (.t 10), none⟩, ⟨some 12, .mov (.t 2), none⟩, ⟨some 13, .call 124 [.c (.str [70]), .t 12], none⟩, ⟨some 14, .bin .add (.t 11) (.t 13), none⟩, ⟨some 6, .mov (.t 14), none⟩]) (.kl [0, 1, 2, 7, 8, 9, 10, 11, 12, 13, 14] (.ret)))), [.tmp 6]⟩
-- lp250_0 HEAD [0, 5, 6] | exit 0: [6] | exit 2: [0, 6, 7] | exit 4: [0, 6, 7, 22, 23, 24]
-- lp250_1 HEAD [0, 6, 7, 22, 23, 24] | exit 2: [0, 6, 7] | exit 4: [0, 6, 7, 22, 23, 24]
-- lp250_2 HEAD [0, 6, 7, 9, 22, 23, 24, 29, 30, 31] | exit 4: [0, 6, 7, 22, 23, 24]
/-- spec.swReach -/
def lb250_2 : C := .kl [52] (.seq (.reg [⟨some 32, .bin .lss (.t 31) (.t 30), none⟩]) (.seq (.cond (.t 32) (.skip) (.kl [9, 29, 30, 31, 32] (.exit 4))) (.kl [32] (.seq (.blk 5 (.seq (.reg [⟨some 33, .iaddr 2 (.t 29) (.t 31), none⟩, ⟨some 34, .load true 2 (.t 33), none⟩, ⟨some 11, .new [.int .i64 0, .int .i64 0], none⟩, ⟨none, .store 2 (.t 11) (.t 34), none⟩]) (.kl [33, 34] (.seq (.reg [⟨some 35, .mov (.t 9), none⟩, ⟨some 36, .load true 2 (.t 11), none⟩, ⟨some 37, .call 66 [.t 35, .t 36], none⟩, ⟨some 12, .mov (.t 37), none⟩]) (.kl [11, 35, 36, 37] (.seq (.reg [⟨some 38, .mov (.t 0), none⟩, ⟨some 39, .mov (.t 12), none⟩, ⟨some 40, .call 244 [.t 38, .t 39], none⟩, ⟨some 41, .bin .gtr (.t 40) (.c (.int .i64 0)), none⟩, ⟨some 42, .mov (.t 41), none⟩, ⟨some 43, .mov (.t 7), some (42, true)⟩, ⟨some 44, .mov (.t 12), some (42, true)⟩, ⟨some 45, .call 243 [.t 43, .t 44], some (42, true)⟩, ⟨some 46, .un .not (.t 45), some (42, true)⟩, ⟨some 47, .pick (.t 42) (.t 46) (.c (.bool false)), none⟩]) (.kl [38, 39, 40, 41, 42, 43, 44, 45, 46] (.cond (.t 47) (.kl [47] (.reg [⟨some 48, .mov (.t 7), none⟩, ⟨some 49, .mov (.t 12), none⟩, ⟨some 50, .lit 1 1 [.str []] [(0, 1, .t 49)], none⟩, ⟨some 51, .app 1 (.t 48) (.t 50), none⟩, ⟨some 7, .mov (.t 51), none⟩])) (.skip))))))))) (.kl [12, 47, 48, 49, 50, 51] (.reg [⟨some 52, .bin .add (.t 31) (.c (.int .i64 1)), none⟩, ⟨some 31, .mov (.t 52), none⟩]))))))
def lp250_2 : C := lb250_2
def lb250_1 : C := .kl [53] (.seq (.reg [⟨some 25, .bin .lss (.t 24) (.t 23), none⟩]) (.seq (.cond (.t 25) (.skip) (.kl [22, 23, 24, 25] (.exit 2))) (.kl [25] (.seq (.blk 3 (.seq (.reg [⟨some 26, .iaddr 1 (.t 22) (.t 24), none⟩, ⟨some 27, .load false 1 (.t 26), none⟩, ⟨some 9, .mov (.t 27), none⟩]) (.kl [26, 27] (.seq (.reg [⟨some 28, .mov (.t 9), none⟩, ⟨some 29, .call 119 [.t 28, .c (.bool true), .c (.bool true)], none⟩, ⟨some 30, .lenV (.t 29), none⟩, ⟨some 31, .mov (.c (.int .i64 0)), none⟩]) (.kl [28] (.blk 4 (.loop lp250_2))))))) (.reg [⟨some 53, .bin .add (.t 24) (.c (.int .i64 1)), none⟩, ⟨some 24, .mov (.t 53), none⟩])))))
def lp250_1 : C := lb250_1
def lb250_0 : C := .kl [7, 54] (.seq (.seq (.reg [⟨some 15, .mov (.t 5), none⟩, ⟨some 16, .lenV (.t 15), none⟩, ⟨some 17, .bin .gtr (.t 16) (.c (.int .i64 0)), none⟩]) (.kl [15, 16] (.cond (.t 17) (.skip) (.kl [0, 5, 17] (.exit 0))))) (.kl [17] (.blk 1 (.seq (.reg [⟨some 18, .mov (.t 6), none⟩, ⟨some 19, .mov (.t 5), none⟩, ⟨some 20, .lit 1 1 [.nilS] [(0, 1, .t 19)], none⟩, ⟨some 21, .app 1 (.t 18) (.t 20), none⟩, ⟨some 6, .mov (.t 21), none⟩]) (.kl [18, 19, 20, 21] (.seq (.reg [⟨some 7, .mov (.c (.nilS)), none⟩]) (.seq (.seq (.reg [⟨some 22, .mov (.t 5), none⟩, ⟨some 23, .lenV (.t 22), none⟩, ⟨some 24, .mov (.c (.int .i64 0)), none⟩]) (.kl [5] (.blk 2 (.loop lp250_1)))) (.reg [⟨some 54, .mov (.t 7), none⟩, ⟨some 5, .mov (.t 54), none⟩]))))))))
def lp250_0 : C := lb250_0
def fi250 : FI := ⟨.seq (.reg [⟨some 4, .mov (.c (.nilS)), none⟩]) (.kl [4] (.seq (.reg [⟨some 13, .mov (.t 1), none⟩, ⟨some 14, .lit 1 1 [.str []] [(0, 1, .t 13)], none⟩, ⟨some 5, .mov (.t 14), none⟩]) (.kl [1, 13, 14] (.seq (.reg [⟨some 6, .mov (.c (.nilS)), none⟩]) (.seq (.blk 0 (.loop lp250_0)) (.seq (.reg [⟨some 55, .mov (.t 6), none⟩, ⟨some 4, .mov (.t 55), none⟩]) (.kl [6, 55] (.ret)))))))), [.tmp 4]⟩
/-- spec.liCan -/
def fi130 : FI := ⟨.seq (.reg [⟨some 3, .box (.t 1), none⟩, ⟨some 4, .mov (.c (.bool false)), none⟩]) (.kl [1, 4] (.seq (.seq (.reg [⟨some 7, .faddr 0 1 (.t 3), none⟩, ⟨some 8, .load false 1 (.t 7), none⟩, ⟨some 9, .mov (.t 0), none⟩, ⟨some 10, .lenS (.t 9), none⟩, ⟨some 11, .bin .sub (.t 10) (.c (.int .i64 1)), none⟩, ⟨some 12, .call 77 [.t 8, .c (.int .i64 0), .t 11], none⟩, ⟨some 13, .un .not (.t 12), none⟩, ⟨some 14, .mov (.t 13), none⟩, ⟨some 15, .faddr 1 1 (.t 3), some (14, false)⟩, ⟨some 16, .load false 1 (.t 15), some (14, false)⟩, ⟨some 17, .mov (.t 0), some (14, false)⟩, ⟨some 18, .lenS (.t 17), some (14, false)⟩, ⟨some 19, .bin .sub (.t 18) (.c (.int .i64 1)), some (14, false)⟩, ⟨some 20, .call 77 [.t 16, .c (.int .i64 0), .t 19], some (14, false)⟩, ⟨some 21, .un .not (.t 20), some (14, false)⟩, ⟨some 22, .pick (.t 14) (.c (.bool true)) (.t 21), none⟩, ⟨some 23, .mov (.t 22), none⟩, ⟨some 24, .mov (.t 0), some (23, false)⟩, ⟨some 25, .faddr 1 1 (.t 3), some (23, false)⟩, ⟨some 26, .load false 1 (.t 25), some (23, false)⟩, ⟨some 27, .idxS (.t 24) (.t 26), some (23, false)⟩, ⟨some 28, .bin .neq (.t 27) (.c (.int .u8 46)), some (23, false)⟩, ⟨some 29, .pick (.t 23) (.c (.bool true)) (.t 28), none⟩]) (.kl [7, 8, 9, 10, 11, 12, 13, 14, 15, 16, 17, 18, 19, 20, 21, 22, 23, 24, 25, 26, 27, 28] (.cond (.t 29) (.kl [0, 3, 29] (.seq (.reg [⟨some 4, .mov (.c (.bool false)), none⟩]) (.ret))) (.skip)))) (.kl [29] (.seq (.reg [⟨some 5, .mov (.c (.int .i64 1)), none⟩, ⟨some 6, .mov (.c (.int .u8 70)), none⟩]) (.seq (.seq (.reg [⟨some 30, .mov (.t 0), none⟩, ⟨some 31, .faddr 0 1 (.t 3), none⟩, ⟨some 32, .load false 1 (.t 31), none⟩, ⟨some 33, .idxS (.t 30) (.t 32), none⟩]) (.kl [30, 31, 32] (.blk 0 (.seq (.reg [⟨some 35, .bin .eql (.t 33) (.c (.int .u8 84)), none⟩, ⟨some 34, .mov (.t 35), none⟩]) (.kl [35] (.cond (.t 34) (.skip) (.kl [5, 6, 34] (.seq (.reg [⟨some 37, .bin .eql (.t 33) (.c (.int .u8 70)), none⟩, ⟨some 36, .mov (.t 37), none⟩]) (.kl [33, 37] (.cond (.t 36) (.kl [36] (.seq (.reg [⟨some 5, .mov (.c (.int .i64 (-1))), none⟩]) (.reg [⟨some 6, .mov (.c (.int .u8 84)), none⟩]))) (.kl [0, 3, 36] (.seq (.reg [⟨some 4, .mov (.c (.bool false)), none⟩]) (.ret))))))))))))) (.kl [33, 34] (.seq (.reg [⟨some 38, .faddr 1 1 (.t 3), none⟩, ⟨some 39, .load false 1 (.t 38), none⟩, ⟨some 40, .faddr 0 1 (.t 3), none⟩, ⟨some 41, .load false 1 (.t 40), none⟩, ⟨some 42, .mov (.t 5), none⟩, ⟨some 43, .bin .add (.t 41) (.t 42), none⟩, ⟨some 44, .bin .eql (.t 39) (.t 43), none⟩, ⟨some 45, .mov (.t 44), none⟩, ⟨some 46, .faddr 1 1 (.t 3), some (45, false)⟩, ⟨some 47, .load false 1 (.t 46), some (45, false)⟩, ⟨some 48, .faddr 0 1 (.t 3), some (45, false)⟩, ⟨some 49, .load false 1 (.t 48), some (45, false)⟩, ⟨some 50, .mov (.t 5), some (45, false)⟩, ⟨some 51, .bin .mul (.c (.int .i64 2)) (.t 50), some (45, false)⟩, ⟨some 52, .bin .add (.t 49) (.t 51), some (45, false)⟩, ⟨some 53, .bin .eql (.t 47) (.t 52), some (45, false)⟩, ⟨some 54, .mov (.t 53), some (45, false)⟩, ⟨some 55, .mov (.t 0), some (54, true)⟩, ⟨some 56, .faddr 0 1 (.t 3), some (54, true)⟩, ⟨some 57, .load false 1 (.t 56), some (54, true)⟩, ⟨some 58, .mov (.t 5), some (54, true)⟩, ⟨some 59, .bin .add (.t 57) (.t 58), some (54, true)⟩, ⟨some 60, .idxS (.t 55) (.t 59), some (54, true)⟩, ⟨some 61, .mov (.t 6), some (54, true)⟩, ⟨some 62, .bin .eql (.t 60) (.t 61), some (54, true)⟩, ⟨some 63, .pick (.t 54) (.t 62) (.c (.bool false)), some (45, false)⟩, ⟨some 64, .pick (.t 45) (.c (.bool true)) (.t 63), none⟩, ⟨some 4, .mov (.t 64), none⟩]) (.kl [0, 3, 5, 6, 38, 39, 40, 41, 42, 43, 44, 45, 46, 47, 48, 49, 50, 51, 52, 53, 54, 55, 56, 57, 58, 59, 60, 61, 62, 63, 64] (.ret))))))))), [.tmp 4]⟩
/-- spec.liPut -/
def fi108 : FI := ⟨.seq (.reg [⟨some 6, .mov (.c (.str [])), none⟩]) (.kl [6] (.seq (.drw [⟨some 7, .mov (.t 0), none⟩, ⟨some 8, .mov (.t 1), none⟩, ⟨some 9, .subS (.t 7) none (some (.t 8)), none⟩, ⟨some 10, .mov (.t 2), none⟩, ⟨some 11, .bin .add (.t 9) (.t 10), none⟩, ⟨some 12, .mov (.t 0), none⟩, ⟨some 13, .mov (.t 1), none⟩, ⟨some 14, .bin .add (.t 13) (.c (.int .i64 1)), none⟩, ⟨some 15, .subS (.t 12) (some (.t 14)) none, none⟩, ⟨some 16, .bin .add (.t 11) (.t 15), none⟩, ⟨some 6, .mov (.t 16), none⟩] []) (.kl [0, 1, 2, 7, 8, 9, 10, 11, 12, 13, 14, 15, 16] (.ret)))), [.tmp 6]⟩
/-- impl.within -/
def fi74 : FI := ⟨.seq (.reg [⟨some 6, .mov (.c (.bool false)), none⟩]) (.kl [6] (.seq (.reg [⟨some 7, .mov (.t 1), none⟩, ⟨some 8, .mov (.t 0), none⟩, ⟨some 9, .bin .leq (.t 7) (.t 8), none⟩, ⟨some 10, .mov (.t 9), none⟩, ⟨some 11, .mov (.t 0), some (10, true)⟩, ⟨some 12, .mov (.t 2), some (10, true)⟩, ⟨some 13, .bin .leq (.t 11) (.t 12), some (10, true)⟩, ⟨some 14, .pick (.t 10) (.t 13) (.c (.bool false)), none⟩, ⟨some 6, .mov (.t 14), none⟩]) (.kl [0, 1, 2, 7, 8, 9, 10, 11, 12, 13, 14] (.ret)))), [.tmp 6]⟩
/-- impl.first -/
def fi253 : FI := ⟨.seq (.reg [⟨some 6, .mov (.c (.str [])), none⟩]) (.kl [6] (.seq (.reg [⟨some 7, .mov (.t 0), none⟩, ⟨some 8, .mov (.t 1), none⟩, ⟨some 9, .mov (.t 2), none⟩, ⟨some 10, .call 246 [.c (.int .u8 84), .t 7, .t 8, .c (.int .u8 70), .t 9], none⟩, ⟨some 6, .mov (.t 10), none⟩]) (.kl [0, 1, 2, 7, 8, 9, 10] (.ret)))), [.tmp 6]⟩
-- lp205_0 HEAD [0, 1, 7, 8] | exit 0: [] | ret: [4]
/-- slices.IndexFunc[[]impl.Move,impl.Move] -/
def lb205_0 : C := .kl [18] (.seq (.reg [⟨some 9, .bin .lss (.t 8) (.t 7), none⟩]) (.seq (.cond (.t 9) (.skip) (.kl [0, 1, 7, 8, 9] (.exit 0))) (.kl [9] (.seq (.blk 1 (.seq (.reg [⟨some 10, .mov (.t 8), none⟩, ⟨some 5, .mov (.t 10), none⟩]) (.kl [10] (.seq (.reg [⟨some 11, .mov (.t 1), none⟩, ⟨some 12, .mov (.t 0), none⟩, ⟨some 13, .mov (.t 5), none⟩, ⟨some 14, .iaddr 2 (.t 12) (.t 13), none⟩, ⟨some 15, .load true 2 (.t 14), none⟩, ⟨some 16, .callv (.t 11) [.t 15], none⟩]) (.kl [11, 12, 13, 14, 15] (.cond (.t 16) (.kl [0, 1, 7, 8, 16] (.seq (.reg [⟨some 17, .mov (.t 5), none⟩, ⟨some 4, .mov (.t 17), none⟩]) (.kl [5, 17] (.ret)))) (.skip))))))) (.kl [5, 16] (.reg [⟨some 18, .bin .add (.t 8) (.c (.int .i64 1)), none⟩, ⟨some 8, .mov (.t 18), none⟩]))))))
def lp205_0 : C := lb205_0
def fi205 : FI := ⟨.seq (.reg [⟨some 4, .mov (.c (.int .i64 0)), none⟩]) (.kl [4] (.seq (.seq (.reg [⟨some 6, .mov (.t 0), none⟩, ⟨some 7, .lenV (.t 6), none⟩, ⟨some 8, .mov (.c (.int .i64 0)), none⟩]) (.kl [6] (.blk 0 (.loop lp205_0)))) (.seq (.reg [⟨some 4, .mov (.c (.int .i64 (-1))), none⟩]) (.ret)))), [.tmp 4]⟩
/-- impl.goal -/
def fi127 : FI := ⟨.seq (.reg [⟨some 4, .mov (.c (.int .i64 0)), none⟩, ⟨some 5, .mov (.c (.bool false)), none⟩]) (.kl [4, 5] (.seq (.reg [⟨some 7, .mov (.t 0), none⟩, ⟨some 8, .mov (.t 1), none⟩, ⟨some 9, .idxS (.t 7) (.t 8), none⟩, ⟨some 10, .call 103 [.t 9], none⟩, ⟨some 6, .mov (.t 10), none⟩]) (.kl [7, 8, 9, 10] (.seq (.blk 0 (.seq (.reg [⟨some 12, .mov (.t 6), none⟩, ⟨some 13, .bin .eql (.t 12) (.c (.int .i64 0)), none⟩, ⟨some 11, .mov (.t 13), none⟩]) (.kl [12, 13] (.cond (.t 11) (.skip) (.kl [11] (.seq (.reg [⟨some 15, .mov (.t 0), none⟩, ⟨some 16, .mov (.t 1), none⟩, ⟨some 17, .mov (.t 6), none⟩, ⟨some 18, .bin .add (.t 16) (.t 17), none⟩, ⟨some 19, .call 125 [.t 15, .t 18], none⟩, ⟨some 20, .bin .eql (.t 19) (.c (.int .u8 46)), none⟩, ⟨some 14, .mov (.t 20), none⟩]) (.kl [15, 16, 17, 18, 19, 20] (.cond (.t 14) (.kl [0, 14] (.seq (.reg [⟨some 21, .mov (.t 1), none⟩, ⟨some 22, .mov (.t 6), none⟩, ⟨some 23, .bin .add (.t 21) (.t 22), none⟩, ⟨some 4, .mov (.t 23), none⟩, ⟨some 5, .mov (.c (.bool true)), none⟩]) (.kl [1, 6, 21, 22, 23] (.ret)))) (.kl [14] (.seq (.drw [⟨some 25, .mov (.t 0), none⟩, ⟨some 26, .mov (.t 1), none⟩, ⟨some 27, .mov (.t 6), none⟩, ⟨some 28, .bin .add (.t 26) (.t 27), none⟩, ⟨some 29, .call 125 [.t 25, .t 28], none⟩, ⟨some 30, .mov (.t 0), none⟩, ⟨some 31, .mov (.t 1), none⟩, ⟨some 32, .idxS (.t 30) (.t 31), none⟩, ⟨some 33, .call 109 [.t 32], none⟩, ⟨some 34, .bin .eql (.t 29) (.t 33), none⟩, ⟨some 35, .mov (.t 34), none⟩, ⟨some 36, .mov (.t 0), some (35, true)⟩, ⟨some 37, .mov (.t 1), some (35, true)⟩, ⟨some 38, .mov (.t 6), some (35, true)⟩, ⟨some 39, .bin .mul (.c (.int .i64 2)) (.t 38), some (35, true)⟩, ⟨some 40, .bin .add (.t 37) (.t 39), some (35, true)⟩, ⟨some 41, .call 125 [.t 36, .t 40], some (35, true)⟩, ⟨some 42, .bin .eql (.t 41) (.c (.int .u8 46)), some (35, true)⟩, ⟨some 43, .pick (.t 35) (.t 42) (.c (.bool false)), none⟩, ⟨some 24, .mov (.t 43), none⟩] []) (.kl [0, 25, 26, 27, 28, 29, 30, 31, 32, 33, 34, 35, 36, 37, 38, 39, 40, 41, 42, 43] (.cond (.t 24) (.kl [24] (.seq (.reg [⟨some 44, .mov (.t 1), none⟩, ⟨some 45, .mov (.t 6), none⟩, ⟨some 46, .bin .mul (.c (.int .i64 2)) (.t 45), none⟩, ⟨some 47, .bin .add (.t 44) (.t 46), none⟩, ⟨some 4, .mov (.t 47), none⟩, ⟨some 5, .mov (.c (.bool true)), none⟩]) (.kl [1, 6, 44, 45, 46, 47] (.ret)))) (.skip))))))))))))) (.kl [0, 1, 6, 11, 24] (.seq (.reg [⟨some 4, .mov (.c (.int .i64 0)), none⟩, ⟨some 5, .mov (.c (.bool false)), none⟩]) (.ret))))))), [.tmp 4, .tmp 5]⟩
-- lp124_0 HEAD [0, 1, 5] | exit 0: [5]
/-- spec.liTimes -/
def lb124_0 : C := .kl [8, 9] (.seq (.seq (.reg [⟨some 6, .mov (.t 1), none⟩, ⟨some 7, .bin .gtr (.t 6) (.c (.int .i64 0)), none⟩]) (.kl [6] (.cond (.t 7) (.skip) (.kl [0, 1, 7] (.exit 0))))) (.kl [7] (.seq (.blk 1 (.reg [⟨some 10, .mov (.t 5), none⟩, ⟨some 11, .mov (.t 0), none⟩, ⟨some 12, .bin .add (.t 10) (.t 11), none⟩, ⟨some 5, .mov (.t 12), none⟩])) (.kl [10, 11, 12] (.reg [⟨some 8, .mov (.t 1), none⟩, ⟨some 9, .bin .sub (.t 8) (.c (.int .i64 1)), none⟩, ⟨some 1, .mov (.t 9), none⟩])))))
def lp124_0 : C := lb124_0
def fi124 : FI := ⟨.seq (.reg [⟨some 4, .mov (.c (.str [])), none⟩]) (.kl [4] (.seq (.reg [⟨some 5, .mov (.c (.str [])), none⟩]) (.seq (.blk 0 (.loop lp124_0)) (.seq (.reg [⟨some 13, .mov (.t 5), none⟩, ⟨some 4, .mov (.t 13), none⟩]) (.kl [5, 13] (.ret)))))), [.tmp 4]⟩
/-- slices.AppendSeq[[]string,string] -/
def fi308 : FI := ⟨.seq (.reg [⟨some 2, .box (.t 0), none⟩, ⟨some 4, .mov (.c (.nilS)), none⟩]) (.kl [0, 2, 4] (.seq (.seq (.reg [⟨some 6, .mov (.t 1), none⟩]) (.kl [1, 6] (.blk 0 (.bad)))) (.bad))), [.tmp 4]⟩
-- lp277_0 HEAD [0, 1, 2, 3, 8, 9] | exit 1: [0, 1, 2, 3, 8, 9] | ret: []
/-- slices.pdqsortOrdered[string] -/
def lb277_0 : C := .kl [14, 122, 123, 133] (.blk 1 (.seq (.reg [⟨some 19, .mov (.t 2), none⟩, ⟨some 20, .mov (.t 1), none⟩, ⟨some 21, .bin .sub (.t 19) (.t 20), none⟩, ⟨some 10, .mov (.t 21), none⟩]) (.kl [19, 20, 21] (.seq (.seq (.reg [⟨some 22, .mov (.t 10), none⟩, ⟨some 23, .bin .leq (.t 22) (.c (.int .i64 12)), none⟩]) (.kl [22] (.cond (.t 23) (.kl [3, 8, 9, 10, 23] (.seq (.reg [⟨some 24, .mov (.t 0), none⟩, ⟨some 25, .mov (.t 1), none⟩, ⟨some 26, .mov (.t 2), none⟩, ⟨some 27, .call 278 [.t 24, .t 25, .t 26], none⟩]) (.kl [0, 1, 2, 24, 25, 26, 27] (.ret)))) (.skip)))) (.kl [23] (.seq (.seq (.reg [⟨some 28, .mov (.t 3), none⟩, ⟨some 29, .bin .eql (.t 28) (.c (.int .i64 0)), none⟩]) (.kl [28] (.cond (.t 29) (.kl [3, 8, 9, 10, 29] (.seq (.reg [⟨some 30, .mov (.t 0), none⟩, ⟨some 31, .mov (.t 1), none⟩, ⟨some 32, .mov (.t 2), none⟩, ⟨some 33, .call 279 [.t 30, .t 31, .t 32], none⟩]) (.kl [0, 1, 2, 30, 31, 32, 33] (.ret)))) (.skip)))) (.kl [29] (.seq (.seq (.reg [⟨some 34, .mov (.t 8), none⟩, ⟨some 35, .un .not (.t 34), none⟩]) (.kl [34] (.cond (.t 35) (.kl [35] (.seq (.reg [⟨some 36, .mov (.t 0), none⟩, ⟨some 37, .mov (.t 1), none⟩, ⟨some 38, .mov (.t 2), none⟩, ⟨some 39, .call 280 [.t 36, .t 37, .t 38], none⟩]) (.kl [36, 37, 38, 39] (.reg [⟨some 40, .mov (.t 3), none⟩, ⟨some 41, .bin .sub (.t 40) (.c (.int .i64 1)), none⟩, ⟨some 3, .mov (.t 41), none⟩])))) (.skip)))) (.kl [35, 40, 41] (.seq (.reg [⟨some 43, .mov (.t 0), none⟩, ⟨some 44, .mov (.t 1), none⟩, ⟨some 45, .mov (.t 2), none⟩, ⟨some 46, .call 281 [.t 43, .t 44, .t 45], none⟩, ⟨some 42, .mov (.t 46), none⟩, ⟨some 47, .prj 0 (.t 42), none⟩, ⟨some 48, .prj 1 (.t 42), none⟩, ⟨some 11, .mov (.t 47), none⟩, ⟨some 12, .mov (.t 48), none⟩]) (.kl [42, 43, 44, 45, 46, 47, 48] (.seq (.seq (.reg [⟨some 49, .mov (.t 12), none⟩, ⟨some 50, .bin .eql (.t 49) (.c (.int .i64 2)), none⟩]) (.kl [49] (.cond (.t 50) (.kl [12, 50] (.seq (.reg [⟨some 51, .mov (.t 0), none⟩, ⟨some 52, .mov (.t 1), none⟩, ⟨some 53, .mov (.t 2), none⟩, ⟨some 54, .call 282 [.t 51, .t 52, .t 53], none⟩]) (.kl [51, 52, 53, 54] (.seq (.reg [⟨some 55, .mov (.t 2), none⟩, ⟨some 56, .bin .sub (.t 55) (.c (.int .i64 1)), none⟩, ⟨some 57, .mov (.t 11), none⟩, ⟨some 58, .mov (.t 1), none⟩, ⟨some 59, .bin .sub (.t 57) (.t 58), none⟩, ⟨some 60, .bin .sub (.t 56) (.t 59), none⟩, ⟨some 11, .mov (.t 60), none⟩]) (.kl [55, 56, 57, 58, 59, 60] (.reg [⟨some 12, .mov (.c (.int .i64 1)), none⟩])))))) (.skip)))) (.kl [50] (.seq (.seq (.reg [⟨some 61, .mov (.t 8), none⟩, ⟨some 62, .mov (.t 61), none⟩, ⟨some 63, .mov (.t 9), some (62, true)⟩, ⟨some 64, .pick (.t 62) (.t 63) (.c (.bool false)), none⟩, ⟨some 65, .mov (.t 64), none⟩, ⟨some 66, .mov (.t 12), some (65, true)⟩, ⟨some 67, .bin .eql (.t 66) (.c (.int .i64 1)), some (65, true)⟩, ⟨some 68, .pick (.t 65) (.t 67) (.c (.bool false)), none⟩]) (.kl [12, 61, 62, 63, 64, 65, 66, 67] (.cond (.t 68) (.kl [68] (.seq (.reg [⟨some 69, .mov (.t 0), none⟩, ⟨some 70, .mov (.t 1), none⟩, ⟨some 71, .mov (.t 2), none⟩, ⟨some 72, .call 283 [.t 69, .t 70, .t 71], none⟩]) (.kl [69, 70, 71] (.cond (.t 72) (.kl [0, 1, 2, 3, 8, 9, 10, 11, 72] (.ret)) (.skip))))) (.skip)))) (.kl [68, 72] (.seq (.seq (.drw [⟨some 73, .mov (.t 1), none⟩, ⟨some 74, .bin .gtr (.t 73) (.c (.int .i64 0)), none⟩, ⟨some 75, .mov (.t 74), none⟩, ⟨some 76, .mov (.t 0), some (75, true)⟩, ⟨some 77, .mov (.t 1), some (75, true)⟩, ⟨some 78, .bin .sub (.t 77) (.c (.int .i64 1)), some (75, true)⟩, ⟨some 79, .iaddr 1 (.t 76) (.t 78), some (75, true)⟩, ⟨some 80, .load false 1 (.t 79), some (75, true)⟩, ⟨some 81, .mov (.t 0), some (75, true)⟩, ⟨some 82, .mov (.t 11), some (75, true)⟩, ⟨some 83, .iaddr 1 (.t 81) (.t 82), some (75, true)⟩, ⟨some 84, .load false 1 (.t 83), some (75, true)⟩, ⟨some 85, .call 284 [.t 80, .t 84], some (75, true)⟩, ⟨some 86, .un .not (.t 85), some (75, true)⟩, ⟨some 87, .pick (.t 75) (.t 86) (.c (.bool false)), none⟩] []) (.kl [73, 74, 75, 76, 77, 78, 79, 80, 81, 82, 83, 84, 85, 86] (.cond (.t 87) (.kl [10, 87] (.seq (.reg [⟨some 88, .mov (.t 0), none⟩, ⟨some 89, .mov (.t 1), none⟩, ⟨some 90, .mov (.t 2), none⟩, ⟨some 91, .mov (.t 11), none⟩, ⟨some 92, .call 285 [.t 88, .t 89, .t 90, .t 91], none⟩, ⟨some 13, .mov (.t 92), none⟩]) (.kl [1, 11, 88, 89, 90, 91, 92] (.seq (.reg [⟨some 93, .mov (.t 13), none⟩, ⟨some 1, .mov (.t 93), none⟩]) (.kl [13, 93] (.exit 1)))))) (.skip)))) (.kl [8, 9, 87] (.seq (.reg [⟨some 95, .mov (.t 0), none⟩, ⟨some 96, .mov (.t 1), none⟩, ⟨some 97, .mov (.t 2), none⟩, ⟨some 98, .mov (.t 11), none⟩, ⟨some 99, .call 286 [.t 95, .t 96, .t 97, .t 98], none⟩, ⟨some 94, .mov (.t 99), none⟩, ⟨some 100, .prj 0 (.t 94), none⟩, ⟨some 101, .prj 1 (.t 94), none⟩, ⟨some 14, .mov (.t 100), none⟩, ⟨some 15, .mov (.t 101), none⟩]) (.kl [11, 94, 95, 96, 97, 98, 99, 100, 101] (.seq (.reg [⟨some 102, .mov (.t 15), none⟩, ⟨some 9, .mov (.t 102), none⟩]) (.kl [15, 102] (.seq (.reg [⟨some 103, .mov (.t 14), none⟩, ⟨some 104, .mov (.t 1), none⟩, ⟨some 105, .bin .sub (.t 103) (.t 104), none⟩, ⟨some 106, .mov (.t 2), none⟩, ⟨some 107, .mov (.t 14), none⟩, ⟨some 108, .bin .sub (.t 106) (.t 107), none⟩, ⟨some 16, .mov (.t 105), none⟩, ⟨some 17, .mov (.t 108), none⟩]) (.kl [103, 104, 105, 106, 107, 108] (.seq (.reg [⟨some 109, .mov (.t 10), none⟩, ⟨some 110, .bin .quo (.t 109) (.c (.int .i64 8)), none⟩, ⟨some 18, .mov (.t 110), none⟩]) (.kl [10, 109, 110] (.seq (.reg [⟨some 111, .mov (.t 16), none⟩, ⟨some 112, .mov (.t 17), none⟩, ⟨some 113, .bin .lss (.t 111) (.t 112), none⟩]) (.kl [111, 112] (.cond (.t 113) (.kl [17, 113] (.seq (.reg [⟨some 114, .mov (.t 16), none⟩, ⟨some 115, .mov (.t 18), none⟩, ⟨some 116, .bin .geq (.t 114) (.t 115), none⟩, ⟨some 8, .mov (.t 116), none⟩]) (.kl [16, 18, 114, 115, 116] (.seq (.reg [⟨some 117, .mov (.t 0), none⟩, ⟨some 118, .mov (.t 1), none⟩, ⟨some 119, .mov (.t 14), none⟩, ⟨some 120, .mov (.t 3), none⟩, ⟨some 121, .call 277 [.t 117, .t 118, .t 119, .t 120], none⟩]) (.kl [1, 117, 118, 119, 120, 121] (.reg [⟨some 122, .mov (.t 14), none⟩, ⟨some 123, .bin .add (.t 122) (.c (.int .i64 1)), none⟩, ⟨some 1, .mov (.t 123), none⟩])))))) (.kl [16, 113] (.seq (.reg [⟨some 124, .mov (.t 17), none⟩, ⟨some 125, .mov (.t 18), none⟩, ⟨some 126, .bin .geq (.t 124) (.t 125), none⟩, ⟨some 8, .mov (.t 126), none⟩]) (.kl [17, 18, 124, 125, 126] (.seq (.reg [⟨some 127, .mov (.t 0), none⟩, ⟨some 128, .mov (.t 14), none⟩, ⟨some 129, .bin .add (.t 128) (.c (.int .i64 1)), none⟩, ⟨some 130, .mov (.t 2), none⟩, ⟨some 131, .mov (.t 3), none⟩, ⟨some 132, .call 277 [.t 127, .t 129, .t 130, .t 131], none⟩]) (.kl [2, 127, 128, 129, 130, 131, 132] (.reg [⟨some 133, .mov (.t 14), none⟩, ⟨some 2, .mov (.t 133), none⟩]))))))))))))))))))))))))))))))))))
def lp277_0 : C := lb277_0
def fi277 : FI := ⟨.seq (.reg [⟨some 8, .mov (.c (.bool true)), none⟩]) (.seq (.reg [⟨some 9, .mov (.c (.bool true)), none⟩]) (.blk 0 (.loop lp277_0))), []⟩
/-- impl.stepOf -/
def fi103 : FI := ⟨.seq (.reg [⟨some 2, .mov (.c (.int .i64 0)), none⟩]) (.kl [2] (.seq (.seq (.reg [⟨some 3, .mov (.t 0), none⟩]) (.kl [0] (.blk 0 (.seq (.reg [⟨some 5, .bin .eql (.t 3) (.c (.int .u8 84)), none⟩, ⟨some 4, .mov (.t 5), none⟩]) (.kl [5] (.cond (.t 4) (.kl [3, 4] (.seq (.reg [⟨some 2, .mov (.c (.int .i64 1)), none⟩]) (.ret))) (.kl [4] (.seq (.reg [⟨some 7, .bin .eql (.t 3) (.c (.int .u8 70)), none⟩, ⟨some 6, .mov (.t 7), none⟩]) (.kl [3, 7] (.cond (.t 6) (.kl [6] (.seq (.reg [⟨some 2, .mov (.c (.int .i64 (-1))), none⟩]) (.ret))) (.skip))))))))))) (.kl [6] (.seq (.reg [⟨some 2, .mov (.c (.int .i64 0)), none⟩]) (.ret))))), [.tmp 2]⟩
/-- impl.at -/
def fi125 : FI := ⟨.seq (.reg [⟨some 4, .mov (.c (.int .u8 0)), none⟩]) (.kl [4] (.seq (.seq (.reg [⟨some 5, .mov (.t 1), none⟩, ⟨some 6, .bin .lss (.t 5) (.c (.int .i64 0)), none⟩, ⟨some 7, .mov (.t 6), none⟩, ⟨some 8, .mov (.t 1), some (7, false)⟩, ⟨some 9, .mov (.t 0), some (7, false)⟩, ⟨some 10, .lenS (.t 9), some (7, false)⟩, ⟨some 11, .bin .geq (.t 8) (.t 10), some (7, false)⟩, ⟨some 12, .pick (.t 7) (.c (.bool true)) (.t 11), none⟩]) (.kl [5, 6, 7, 8, 9, 10, 11] (.cond (.t 12) (.kl [0, 1, 12] (.seq (.reg [⟨some 4, .mov (.c (.int .u8 0)), none⟩]) (.ret))) (.skip)))) (.kl [12] (.seq (.reg [⟨some 13, .mov (.t 0), none⟩, ⟨some 14, .mov (.t 1), none⟩, ⟨some 15, .idxS (.t 13) (.t 14), none⟩, ⟨some 4, .mov (.t 15), none⟩]) (.kl [0, 1, 13, 14, 15] (.ret)))))), [.tmp 4]⟩
/-- impl.other -/
def fi109 : FI := ⟨.seq (.reg [⟨some 2, .mov (.c (.int .u8 0)), none⟩]) (.kl [2] (.seq (.seq (.reg [⟨some 3, .mov (.t 0), none⟩]) (.blk 0 (.seq (.reg [⟨some 5, .bin .eql (.t 3) (.c (.int .u8 84)), none⟩, ⟨some 4, .mov (.t 5), none⟩]) (.kl [5] (.cond (.t 4) (.kl [0, 3, 4] (.seq (.reg [⟨some 2, .mov (.c (.int .u8 70)), none⟩]) (.ret))) (.kl [4] (.seq (.reg [⟨some 7, .bin .eql (.t 3) (.c (.int .u8 70)), none⟩, ⟨some 6, .mov (.t 7), none⟩]) (.kl [3, 7] (.cond (.t 6) (.kl [0, 6] (.seq (.reg [⟨some 2, .mov (.c (.int .u8 84)), none⟩]) (.ret))) (.skip)))))))))) (.kl [6] (.seq (.reg [⟨some 8, .mov (.t 0), none⟩, ⟨some 2, .mov (.t 8), none⟩]) (.kl [0, 8] (.ret)))))), [.tmp 2]⟩
-- lp278_0 HEAD [0, 1, 2, 6] | exit 0: [] | exit 2: [0, 1, 2, 6]
-- lp278_1 HEAD [0, 1, 2, 6, 7] | exit 2: [0, 1, 2, 6]
/-- slices.insertionSortOrdered[string] -/
def lb278_1 : C := .kl [31, 32] (.seq (.seq (.drw [⟨some 16, .mov (.t 7), none⟩, ⟨some 17, .mov (.t 1), none⟩, ⟨some 18, .bin .gtr (.t 16) (.t 17), none⟩, ⟨some 19, .mov (.t 18), none⟩, ⟨some 20, .mov (.t 0), some (19, true)⟩, ⟨some 21, .mov (.t 7), some (19, true)⟩, ⟨some 22, .iaddr 1 (.t 20) (.t 21), some (19, true)⟩, ⟨some 23, .load false 1 (.t 22), some (19, true)⟩, ⟨some 24, .mov (.t 0), some (19, true)⟩, ⟨some 25, .mov (.t 7), some (19, true)⟩, ⟨some 26, .bin .sub (.t 25) (.c (.int .i64 1)), some (19, true)⟩, ⟨some 27, .iaddr 1 (.t 24) (.t 26), some (19, true)⟩, ⟨some 28, .load false 1 (.t 27), some (19, true)⟩, ⟨some 29, .call 284 [.t 23, .t 28], some (19, true)⟩, ⟨some 30, .pick (.t 19) (.t 29) (.c (.bool false)), none⟩] []) (.kl [16, 17, 18, 19, 20, 21, 22, 23, 24, 25, 26, 27, 28, 29] (.cond (.t 30) (.skip) (.kl [7, 30] (.exit 2))))) (.kl [30] (.seq (.blk 3 (.drw [⟨some 33, .mov (.t 0), none⟩, ⟨some 34, .mov (.t 7), none⟩, ⟨some 35, .mov (.t 0), none⟩, ⟨some 36, .mov (.t 7), none⟩, ⟨some 37, .bin .sub (.t 36) (.c (.int .i64 1)), none⟩, ⟨some 38, .mov (.t 0), none⟩, ⟨some 39, .mov (.t 7), none⟩, ⟨some 40, .bin .sub (.t 39) (.c (.int .i64 1)), none⟩, ⟨some 41, .iaddr 1 (.t 38) (.t 40), none⟩, ⟨some 42, .load false 1 (.t 41), none⟩, ⟨some 43, .mov (.t 0), none⟩, ⟨some 44, .mov (.t 7), none⟩, ⟨some 45, .iaddr 1 (.t 43) (.t 44), none⟩, ⟨some 46, .load false 1 (.t 45), none⟩, ⟨some 47, .iaddr 1 (.t 33) (.t 34), none⟩, ⟨none, .store 1 (.t 47) (.t 42), none⟩, ⟨some 48, .iaddr 1 (.t 35) (.t 37), none⟩, ⟨none, .store 1 (.t 48) (.t 46), none⟩] [])) (.kl [33, 34, 35, 36, 37, 38, 39, 40, 41, 42, 43, 44, 45, 46, 47, 48] (.reg [⟨some 31, .mov (.t 7), none⟩, ⟨some 32, .bin .sub (.t 31) (.c (.int .i64 1)), none⟩, ⟨some 7, .mov (.t 32), none⟩])))))
def lp278_1 : C := lb278_1
def lb278_0 : C := .kl [13, 14] (.seq (.seq (.reg [⟨some 10, .mov (.t 6), none⟩, ⟨some 11, .mov (.t 2), none⟩, ⟨some 12, .bin .lss (.t 10) (.t 11), none⟩]) (.kl [10, 11] (.cond (.t 12) (.skip) (.kl [0, 1, 2, 6, 12] (.exit 0))))) (.kl [12] (.seq (.blk 1 (.seq (.reg [⟨some 15, .mov (.t 6), none⟩, ⟨some 7, .mov (.t 15), none⟩]) (.kl [15] (.blk 2 (.loop lp278_1))))) (.reg [⟨some 13, .mov (.t 6), none⟩, ⟨some 14, .bin .add (.t 13) (.c (.int .i64 1)), none⟩, ⟨some 6, .mov (.t 14), none⟩]))))
def lp278_0 : C := lb278_0
def fi278 : FI := ⟨.seq (.reg [⟨some 8, .mov (.t 1), none⟩, ⟨some 9, .bin .add (.t 8) (.c (.int .i64 1)), none⟩, ⟨some 6, .mov (.t 9), none⟩]) (.kl [8, 9] (.blk 0 (.loop lp278_0))), []⟩
-- lp279_0 HEAD [0, 6, 7, 8, 9] | exit 0: [0, 6, 7, 8]
-- lp279_1 HEAD [0, 6, 7, 10] | exit 2: []
/-- slices.heapSortOrdered[string] -/
def lb279_1 : C := .kl [31, 32] (.seq (.seq (.reg [⟨some 29, .mov (.t 10), none⟩, ⟨some 30, .bin .geq (.t 29) (.c (.int .i64 0)), none⟩]) (.kl [29] (.cond (.t 30) (.skip) (.kl [0, 6, 7, 10, 30] (.exit 2))))) (.kl [30] (.seq (.blk 3 (.seq (.drw [⟨some 33, .mov (.t 0), none⟩, ⟨some 34, .mov (.t 6), none⟩, ⟨some 35, .mov (.t 0), none⟩, ⟨some 36, .mov (.t 6), none⟩, ⟨some 37, .mov (.t 10), none⟩, ⟨some 38, .bin .add (.t 36) (.t 37), none⟩, ⟨some 39, .mov (.t 0), none⟩, ⟨some 40, .mov (.t 6), none⟩, ⟨some 41, .mov (.t 10), none⟩, ⟨some 42, .bin .add (.t 40) (.t 41), none⟩, ⟨some 43, .iaddr 1 (.t 39) (.t 42), none⟩, ⟨some 44, .load false 1 (.t 43), none⟩, ⟨some 45, .mov (.t 0), none⟩, ⟨some 46, .mov (.t 6), none⟩, ⟨some 47, .iaddr 1 (.t 45) (.t 46), none⟩, ⟨some 48, .load false 1 (.t 47), none⟩, ⟨some 49, .iaddr 1 (.t 33) (.t 34), none⟩, ⟨none, .store 1 (.t 49) (.t 44), none⟩, ⟨some 50, .iaddr 1 (.t 35) (.t 38), none⟩, ⟨none, .store 1 (.t 50) (.t 48), none⟩] []) (.kl [33, 34, 35, 36, 37, 38, 39, 40, 41, 42, 43, 44, 45, 46, 47, 48, 49, 50] (.reg [⟨some 51, .mov (.t 0), none⟩, ⟨some 52, .mov (.t 7), none⟩, ⟨some 53, .mov (.t 10), none⟩, ⟨some 54, .mov (.t 6), none⟩, ⟨some 55, .call 287 [.t 51, .t 52, .t 53, .t 54], none⟩])))) (.kl [51, 52, 53, 54, 55] (.reg [⟨some 31, .mov (.t 10), none⟩, ⟨some 32, .bin .sub (.t 31) (.c (.int .i64 1)), none⟩, ⟨some 10, .mov (.t 32), none⟩])))))
def lp279_1 : C := lb279_1
def lb279_0 : C := .kl [20, 21] (.seq (.seq (.reg [⟨some 18, .mov (.t 9), none⟩, ⟨some 19, .bin .geq (.t 18) (.c (.int .i64 0)), none⟩]) (.kl [18] (.cond (.t 19) (.skip) (.kl [9, 19] (.exit 0))))) (.kl [19] (.seq (.blk 1 (.reg [⟨some 22, .mov (.t 0), none⟩, ⟨some 23, .mov (.t 9), none⟩, ⟨some 24, .mov (.t 8), none⟩, ⟨some 25, .mov (.t 6), none⟩, ⟨some 26, .call 287 [.t 22, .t 23, .t 24, .t 25], none⟩])) (.kl [22, 23, 24, 25, 26] (.reg [⟨some 20, .mov (.t 9), none⟩, ⟨some 21, .bin .sub (.t 20) (.c (.int .i64 1)), none⟩, ⟨some 9, .mov (.t 21), none⟩])))))
def lp279_0 : C := lb279_0
def fi279 : FI := ⟨.seq (.reg [⟨some 11, .mov (.t 1), none⟩, ⟨some 6, .mov (.t 11), none⟩]) (.kl [11] (.seq (.reg [⟨some 7, .mov (.c (.int .i64 0)), none⟩]) (.seq (.reg [⟨some 12, .mov (.t 2), none⟩, ⟨some 13, .mov (.t 1), none⟩, ⟨some 14, .bin .sub (.t 12) (.t 13), none⟩, ⟨some 8, .mov (.t 14), none⟩]) (.kl [1, 2, 12, 13, 14] (.seq (.seq (.reg [⟨some 15, .mov (.t 8), none⟩, ⟨some 16, .bin .sub (.t 15) (.c (.int .i64 1)), none⟩, ⟨some 17, .bin .quo (.t 16) (.c (.int .i64 2)), none⟩, ⟨some 9, .mov (.t 17), none⟩]) (.kl [15, 16, 17] (.blk 0 (.loop lp279_0)))) (.seq (.reg [⟨some 27, .mov (.t 8), none⟩, ⟨some 28, .bin .sub (.t 27) (.c (.int .i64 1)), none⟩, ⟨some 10, .mov (.t 28), none⟩]) (.kl [8, 27, 28] (.blk 2 (.loop lp279_1))))))))), []⟩
-- lp280_0 HEAD [0, 1, 6, 7, 8, 9] | exit 0: []
/-- slices.breakPatternsOrdered[string] -/
def lb280_0 : C := .kl [34, 35] (.seq (.seq (.reg [⟨some 26, .mov (.t 9), none⟩, ⟨some 27, .mov (.t 1), none⟩, ⟨some 28, .mov (.t 6), none⟩, ⟨some 29, .bin .quo (.t 28) (.c (.int .i64 4)), none⟩, ⟨some 30, .bin .mul (.t 29) (.c (.int .i64 2)), none⟩, ⟨some 31, .bin .add (.t 27) (.t 30), none⟩, ⟨some 32, .bin .add (.t 31) (.c (.int .i64 1)), none⟩, ⟨some 33, .bin .leq (.t 26) (.t 32), none⟩]) (.kl [26, 27, 28, 29, 30, 31, 32] (.cond (.t 33) (.skip) (.kl [0, 1, 6, 7, 8, 9, 33] (.exit 0))))) (.kl [33] (.seq (.blk 1 (.seq (.reg [⟨some 36, .call 289 [.t 7], none⟩, ⟨some 37, .mov (.t 8), none⟩, ⟨some 38, .bin .sub (.t 37) (.c (.int .u64 1)), none⟩, ⟨some 39, .bin .and (.t 36) (.t 38), none⟩, ⟨some 40, .conv .i64 (.t 39), none⟩, ⟨some 10, .mov (.t 40), none⟩]) (.kl [36, 37, 38, 39, 40] (.seq (.seq (.reg [⟨some 41, .mov (.t 10), none⟩, ⟨some 42, .mov (.t 6), none⟩, ⟨some 43, .bin .geq (.t 41) (.t 42), none⟩]) (.kl [41, 42] (.cond (.t 43) (.kl [43] (.reg [⟨some 44, .mov (.t 10), none⟩, ⟨some 45, .mov (.t 6), none⟩, ⟨some 46, .bin .sub (.t 44) (.t 45), none⟩, ⟨some 10, .mov (.t 46), none⟩])) (.skip)))) (.kl [43, 44, 45, 46] (.drw [⟨some 47, .mov (.t 0), none⟩, ⟨some 48, .mov (.t 9), none⟩, ⟨some 49, .mov (.t 0), none⟩, ⟨some 50, .mov (.t 1), none⟩, ⟨some 51, .mov (.t 10), none⟩, ⟨some 52, .bin .add (.t 50) (.t 51), none⟩, ⟨some 53, .mov (.t 0), none⟩, ⟨some 54, .mov (.t 1), none⟩, ⟨some 55, .mov (.t 10), none⟩, ⟨some 56, .bin .add (.t 54) (.t 55), none⟩, ⟨some 57, .iaddr 1 (.t 53) (.t 56), none⟩, ⟨some 58, .load false 1 (.t 57), none⟩, ⟨some 59, .mov (.t 0), none⟩, ⟨some 60, .mov (.t 9), none⟩, ⟨some 61, .iaddr 1 (.t 59) (.t 60), none⟩, ⟨some 62, .load false 1 (.t 61), none⟩, ⟨some 63, .iaddr 1 (.t 47) (.t 48), none⟩, ⟨none, .store 1 (.t 63) (.t 58), none⟩, ⟨some 64, .iaddr 1 (.t 49) (.t 52), none⟩, ⟨none, .store 1 (.t 64) (.t 62), none⟩] [])))))) (.kl [10, 47, 48, 49, 50, 51, 52, 53, 54, 55, 56, 57, 58, 59, 60, 61, 62, 63, 64] (.reg [⟨some 34, .mov (.t 9), none⟩, ⟨some 35, .bin .add (.t 34) (.c (.int .i64 1)), none⟩, ⟨some 9, .mov (.t 35), none⟩])))))
def lp280_0 : C := lb280_0
def fi280 : FI := ⟨.seq (.reg [⟨some 11, .mov (.t 2), none⟩, ⟨some 12, .mov (.t 1), none⟩, ⟨some 13, .bin .sub (.t 11) (.t 12), none⟩, ⟨some 6, .mov (.t 13), none⟩]) (.kl [2, 11, 12, 13] (.seq (.reg [⟨some 14, .mov (.t 6), none⟩, ⟨some 15, .bin .geq (.t 14) (.c (.int .i64 8)), none⟩]) (.kl [14] (.cond (.t 15) (.kl [15] (.seq (.reg [⟨some 16, .mov (.t 6), none⟩, ⟨some 17, .conv .u64 (.t 16), none⟩, ⟨some 7, .new [.int .u64 0], none⟩, ⟨none, .store 1 (.t 7) (.t 17), none⟩]) (.kl [16, 17] (.seq (.reg [⟨some 18, .mov (.t 6), none⟩, ⟨some 19, .call 288 [.t 18], none⟩, ⟨some 8, .mov (.t 19), none⟩]) (.kl [18, 19] (.seq (.reg [⟨some 20, .mov (.t 1), none⟩, ⟨some 21, .mov (.t 6), none⟩, ⟨some 22, .bin .quo (.t 21) (.c (.int .i64 4)), none⟩, ⟨some 23, .bin .mul (.t 22) (.c (.int .i64 2)), none⟩, ⟨some 24, .bin .add (.t 20) (.t 23), none⟩, ⟨some 25, .bin .sub (.t 24) (.c (.int .i64 1)), none⟩, ⟨some 9, .mov (.t 25), none⟩]) (.kl [20, 21, 22, 23, 24, 25] (.blk 0 (.loop lp280_0))))))))) (.skip))))), []⟩
/-- slices.choosePivotOrdered[string] -/
def fi281 : FI := ⟨.seq (.reg [⟨some 6, .mov (.c (.int .i64 0)), none⟩, ⟨some 7, .mov (.c (.int .i64 0)), none⟩]) (.kl [6, 7] (.seq (.reg [⟨some 13, .mov (.t 2), none⟩, ⟨some 14, .mov (.t 1), none⟩, ⟨some 15, .bin .sub (.t 13) (.t 14), none⟩, ⟨some 8, .mov (.t 15), none⟩]) (.kl [2, 13, 14, 15] (.seq (.reg [⟨some 9, .new [.int .i64 0], none⟩]) (.seq (.reg [⟨some 16, .mov (.t 1), none⟩, ⟨some 17, .mov (.t 8), none⟩, ⟨some 18, .bin .quo (.t 17) (.c (.int .i64 4)), none⟩, ⟨some 19, .bin .mul (.t 18) (.c (.int .i64 1)), none⟩, ⟨some 20, .bin .add (.t 16) (.t 19), none⟩, ⟨some 10, .mov (.t 20), none⟩]) (.kl [16, 17, 18, 19, 20] (.seq (.reg [⟨some 21, .mov (.t 1), none⟩, ⟨some 22, .mov (.t 8), none⟩, ⟨some 23, .bin .quo (.t 22) (.c (.int .i64 4)), none⟩, ⟨some 24, .bin .mul (.t 23) (.c (.int .i64 2)), none⟩, ⟨some 25, .bin .add (.t 21) (.t 24), none⟩, ⟨some 11, .mov (.t 25), none⟩]) (.kl [21, 22, 23, 24, 25] (.seq (.reg [⟨some 26, .mov (.t 1), none⟩, ⟨some 27, .mov (.t 8), none⟩, ⟨some 28, .bin .quo (.t 27) (.c (.int .i64 4)), none⟩, ⟨some 29, .bin .mul (.t 28) (.c (.int .i64 3)), none⟩, ⟨some 30, .bin .add (.t 26) (.t 29), none⟩, ⟨some 12, .mov (.t 30), none⟩]) (.kl [1, 26, 27, 28, 29, 30] (.seq (.seq (.reg [⟨some 31, .mov (.t 8), none⟩, ⟨some 32, .bin .geq (.t 31) (.c (.int .i64 8)), none⟩]) (.kl [31] (.cond (.t 32) (.kl [32] (.seq (.seq (.reg [⟨some 33, .mov (.t 8), none⟩, ⟨some 34, .bin .geq (.t 33) (.c (.int .i64 50)), none⟩]) (.kl [8, 33] (.cond (.t 34) (.kl [34] (.seq (.reg [⟨some 35, .mov (.t 0), none⟩, ⟨some 36, .mov (.t 10), none⟩, ⟨some 37, .call 290 [.t 35, .t 36, .t 9], none⟩, ⟨some 10, .mov (.t 37), none⟩]) (.kl [35, 36, 37] (.seq (.reg [⟨some 38, .mov (.t 0), none⟩, ⟨some 39, .mov (.t 11), none⟩, ⟨some 40, .call 290 [.t 38, .t 39, .t 9], none⟩, ⟨some 11, .mov (.t 40), none⟩]) (.kl [38, 39, 40] (.reg [⟨some 41, .mov (.t 0), none⟩, ⟨some 42, .mov (.t 12), none⟩, ⟨some 43, .call 290 [.t 41, .t 42, .t 9], none⟩, ⟨some 12, .mov (.t 43), none⟩])))))) (.skip)))) (.kl [34, 41, 42, 43] (.reg [⟨some 44, .mov (.t 0), none⟩, ⟨some 45, .mov (.t 10), none⟩, ⟨some 46, .mov (.t 11), none⟩, ⟨some 47, .mov (.t 12), none⟩, ⟨some 48, .call 291 [.t 44, .t 45, .t 46, .t 47, .t 9], none⟩, ⟨some 11, .mov (.t 48), none⟩])))) (.skip)))) (.kl [0, 8, 10, 12, 32, 44, 45, 46, 47, 48] (.seq (.reg [⟨some 49, .load false 1 (.t 9), none⟩]) (.kl [9] (.blk 0 (.seq (.reg [⟨some 52, .bin .eql (.t 49) (.c (.int .i64 0)), none⟩, ⟨some 51, .mov (.t 52), none⟩]) (.kl [52] (.cond (.t 51) (.kl [49, 51] (.seq (.reg [⟨some 53, .mov (.t 11), none⟩, ⟨some 6, .mov (.t 53), none⟩, ⟨some 7, .mov (.c (.int .i64 1)), none⟩]) (.kl [11, 53] (.ret)))) (.kl [51] (.seq (.reg [⟨some 55, .bin .eql (.t 49) (.c (.int .i64 12)), none⟩, ⟨some 54, .mov (.t 55), none⟩]) (.kl [49, 55] (.cond (.t 54) (.kl [54] (.seq (.reg [⟨some 56, .mov (.t 11), none⟩, ⟨some 6, .mov (.t 56), none⟩, ⟨some 7, .mov (.c (.int .i64 2)), none⟩]) (.kl [11, 56] (.ret)))) (.kl [54] (.seq (.reg [⟨some 50, .mov (.t 11), none⟩, ⟨some 6, .mov (.t 50), none⟩, ⟨some 7, .mov (.c (.int .i64 0)), none⟩]) (.kl [11, 50] (.ret)))))))))))))))))))))))))), [.tmp 6, .tmp 7]⟩
-- lp282_0 HEAD [0, 6, 7] | exit 0: []
/-- slices.reverseRangeOrdered[string] -/
def lb282_0 : C := .kl [30, 31] (.seq (.seq (.reg [⟨some 11, .mov (.t 6), none⟩, ⟨some 12, .mov (.t 7), none⟩, ⟨some 13, .bin .lss (.t 11) (.t 12), none⟩]) (.kl [11, 12] (.cond (.t 13) (.skip) (.kl [0, 6, 7, 13] (.exit 0))))) (.kl [13] (.blk 1 (.seq (.drw [⟨some 14, .mov (.t 0), none⟩, ⟨some 15, .mov (.t 6), none⟩, ⟨some 16, .mov (.t 0), none⟩, ⟨some 17, .mov (.t 7), none⟩, ⟨some 18, .mov (.t 0), none⟩, ⟨some 19, .mov (.t 7), none⟩, ⟨some 20, .iaddr 1 (.t 18) (.t 19), none⟩, ⟨some 21, .load false 1 (.t 20), none⟩, ⟨some 22, .mov (.t 0), none⟩, ⟨some 23, .mov (.t 6), none⟩, ⟨some 24, .iaddr 1 (.t 22) (.t 23), none⟩, ⟨some 25, .load false 1 (.t 24), none⟩, ⟨some 26, .iaddr 1 (.t 14) (.t 15), none⟩, ⟨none, .store 1 (.t 26) (.t 21), none⟩, ⟨some 27, .iaddr 1 (.t 16) (.t 17), none⟩, ⟨none, .store 1 (.t 27) (.t 25), none⟩] []) (.kl [14, 15, 16, 17, 18, 19, 20, 21, 22, 23, 24, 25, 26, 27] (.seq (.reg [⟨some 28, .mov (.t 6), none⟩, ⟨some 29, .bin .add (.t 28) (.c (.int .i64 1)), none⟩, ⟨some 6, .mov (.t 29), none⟩]) (.kl [28, 29] (.reg [⟨some 30, .mov (.t 7), none⟩, ⟨some 31, .bin .sub (.t 30) (.c (.int .i64 1)), none⟩, ⟨some 7, .mov (.t 31), none⟩]))))))))
def lp282_0 : C := lb282_0
def fi282 : FI := ⟨.seq (.reg [⟨some 8, .mov (.t 1), none⟩, ⟨some 6, .mov (.t 8), none⟩]) (.kl [1, 8] (.seq (.reg [⟨some 9, .mov (.t 2), none⟩, ⟨some 10, .bin .sub (.t 9) (.c (.int .i64 1)), none⟩, ⟨some 7, .mov (.t 10), none⟩]) (.kl [2, 9, 10] (.blk 0 (.loop lp282_0))))), []⟩
-- lp283_0 HEAD [0, 1, 2, 7, 8] | exit 0: [] | exit 2: [0, 1, 2, 7, 8] | exit 4: [0, 1, 2, 7, 8] | exit 6: [0, 1, 2, 7, 8] | ret: [6]
-- lp283_1 HEAD [0, 1, 2, 7, 8] | exit 2: [0, 1, 2, 7, 8]
-- lp283_2 HEAD [0, 1, 2, 7, 8, 9] | exit 4: [0, 1, 2, 7, 8]
-- lp283_3 HEAD [0, 1, 2, 7, 8, 10] | exit 6: [0, 1, 2, 7, 8]
/-- slices.partialInsertionSortOrdered[string] -/
def lb283_3 : C := .kl [104, 105] (.seq (.seq (.reg [⟨some 101, .mov (.t 10), none⟩, ⟨some 102, .mov (.t 2), none⟩, ⟨some 103, .bin .lss (.t 101) (.t 102), none⟩]) (.kl [101, 102] (.cond (.t 103) (.skip) (.kl [10, 103] (.exit 6))))) (.kl [103] (.seq (.blk 7 (.seq (.seq (.drw [⟨some 106, .mov (.t 0), none⟩, ⟨some 107, .mov (.t 10), none⟩, ⟨some 108, .iaddr 1 (.t 106) (.t 107), none⟩, ⟨some 109, .load false 1 (.t 108), none⟩, ⟨some 110, .mov (.t 0), none⟩, ⟨some 111, .mov (.t 10), none⟩, ⟨some 112, .bin .sub (.t 111) (.c (.int .i64 1)), none⟩, ⟨some 113, .iaddr 1 (.t 110) (.t 112), none⟩, ⟨some 114, .load false 1 (.t 113), none⟩, ⟨some 115, .call 284 [.t 109, .t 114], none⟩, ⟨some 116, .un .not (.t 115), none⟩] []) (.kl [106, 107, 108, 109, 110, 111, 112, 113, 114, 115] (.cond (.t 116) (.kl [10, 116] (.exit 6)) (.skip)))) (.kl [116] (.drw [⟨some 117, .mov (.t 0), none⟩, ⟨some 118, .mov (.t 10), none⟩, ⟨some 119, .mov (.t 0), none⟩, ⟨some 120, .mov (.t 10), none⟩, ⟨some 121, .bin .sub (.t 120) (.c (.int .i64 1)), none⟩, ⟨some 122, .mov (.t 0), none⟩, ⟨some 123, .mov (.t 10), none⟩, ⟨some 124, .bin .sub (.t 123) (.c (.int .i64 1)), none⟩, ⟨some 125, .iaddr 1 (.t 122) (.t 124), none⟩, ⟨some 126, .load false 1 (.t 125), none⟩, ⟨some 127, .mov (.t 0), none⟩, ⟨some 128, .mov (.t 10), none⟩, ⟨some 129, .iaddr 1 (.t 127) (.t 128), none⟩, ⟨some 130, .load false 1 (.t 129), none⟩, ⟨some 131, .iaddr 1 (.t 117) (.t 118), none⟩, ⟨none, .store 1 (.t 131) (.t 126), none⟩, ⟨some 132, .iaddr 1 (.t 119) (.t 121), none⟩, ⟨none, .store 1 (.t 132) (.t 130), none⟩] [])))) (.kl [117, 118, 119, 120, 121, 122, 123, 124, 125, 126, 127, 128, 129, 130, 131, 132] (.reg [⟨some 104, .mov (.t 10), none⟩, ⟨some 105, .bin .add (.t 104) (.c (.int .i64 1)), none⟩, ⟨some 10, .mov (.t 105), none⟩])))))
def lp283_3 : C := lb283_3
def lb283_2 : C := .kl [66, 67] (.seq (.seq (.reg [⟨some 64, .mov (.t 9), none⟩, ⟨some 65, .bin .geq (.t 64) (.c (.int .i64 1)), none⟩]) (.kl [64] (.cond (.t 65) (.skip) (.kl [9, 65] (.exit 4))))) (.kl [65] (.seq (.blk 5 (.seq (.seq (.drw [⟨some 68, .mov (.t 0), none⟩, ⟨some 69, .mov (.t 9), none⟩, ⟨some 70, .iaddr 1 (.t 68) (.t 69), none⟩, ⟨some 71, .load false 1 (.t 70), none⟩, ⟨some 72, .mov (.t 0), none⟩, ⟨some 73, .mov (.t 9), none⟩, ⟨some 74, .bin .sub (.t 73) (.c (.int .i64 1)), none⟩, ⟨some 75, .iaddr 1 (.t 72) (.t 74), none⟩, ⟨some 76, .load false 1 (.t 75), none⟩, ⟨some 77, .call 284 [.t 71, .t 76], none⟩, ⟨some 78, .un .not (.t 77), none⟩] []) (.kl [68, 69, 70, 71, 72, 73, 74, 75, 76, 77] (.cond (.t 78) (.kl [9, 78] (.exit 4)) (.skip)))) (.kl [78] (.drw [⟨some 79, .mov (.t 0), none⟩, ⟨some 80, .mov (.t 9), none⟩, ⟨some 81, .mov (.t 0), none⟩, ⟨some 82, .mov (.t 9), none⟩, ⟨some 83, .bin .sub (.t 82) (.c (.int .i64 1)), none⟩, ⟨some 84, .mov (.t 0), none⟩, ⟨some 85, .mov (.t 9), none⟩, ⟨some 86, .bin .sub (.t 85) (.c (.int .i64 1)), none⟩, ⟨some 87, .iaddr 1 (.t 84) (.t 86), none⟩, ⟨some 88, .load false 1 (.t 87), none⟩, ⟨some 89, .mov (.t 0), none⟩, ⟨some 90, .mov (.t 9), none⟩, ⟨some 91, .iaddr 1 (.t 89) (.t 90), none⟩, ⟨some 92, .load false 1 (.t 91), none⟩, ⟨some 93, .iaddr 1 (.t 79) (.t 80), none⟩, ⟨none, .store 1 (.t 93) (.t 88), none⟩, ⟨some 94, .iaddr 1 (.t 81) (.t 83), none⟩, ⟨none, .store 1 (.t 94) (.t 92), none⟩] [])))) (.kl [79, 80, 81, 82, 83, 84, 85, 86, 87, 88, 89, 90, 91, 92, 93, 94] (.reg [⟨some 66, .mov (.t 9), none⟩, ⟨some 67, .bin .sub (.t 66) (.c (.int .i64 1)), none⟩, ⟨some 9, .mov (.t 67), none⟩])))))
def lp283_2 : C := lb283_2
def lb283_1 : C := .kl [33, 34] (.seq (.seq (.drw [⟨some 17, .mov (.t 7), none⟩, ⟨some 18, .mov (.t 2), none⟩, ⟨some 19, .bin .lss (.t 17) (.t 18), none⟩, ⟨some 20, .mov (.t 19), none⟩, ⟨some 21, .mov (.t 0), some (20, true)⟩, ⟨some 22, .mov (.t 7), some (20, true)⟩, ⟨some 23, .iaddr 1 (.t 21) (.t 22), some (20, true)⟩, ⟨some 24, .load false 1 (.t 23), some (20, true)⟩, ⟨some 25, .mov (.t 0), some (20, true)⟩, ⟨some 26, .mov (.t 7), some (20, true)⟩, ⟨some 27, .bin .sub (.t 26) (.c (.int .i64 1)), some (20, true)⟩, ⟨some 28, .iaddr 1 (.t 25) (.t 27), some (20, true)⟩, ⟨some 29, .load false 1 (.t 28), some (20, true)⟩, ⟨some 30, .call 284 [.t 24, .t 29], some (20, true)⟩, ⟨some 31, .un .not (.t 30), some (20, true)⟩, ⟨some 32, .pick (.t 20) (.t 31) (.c (.bool false)), none⟩] []) (.kl [17, 18, 19, 20, 21, 22, 23, 24, 25, 26, 27, 28, 29, 30, 31] (.cond (.t 32) (.skip) (.kl [32] (.exit 2))))) (.kl [32] (.blk 3 (.reg [⟨some 33, .mov (.t 7), none⟩, ⟨some 34, .bin .add (.t 33) (.c (.int .i64 1)), none⟩, ⟨some 7, .mov (.t 34), none⟩]))))
def lp283_1 : C := lb283_1
def lb283_0 : C := .kl [15, 16] (.seq (.seq (.reg [⟨some 13, .mov (.t 8), none⟩, ⟨some 14, .bin .lss (.t 13) (.c (.int .i64 5)), none⟩]) (.kl [13] (.cond (.t 14) (.skip) (.kl [0, 1, 2, 7, 8, 14] (.exit 0))))) (.kl [14] (.seq (.blk 1 (.seq (.blk 2 (.loop lp283_1)) (.seq (.seq (.reg [⟨some 35, .mov (.t 7), none⟩, ⟨some 36, .mov (.t 2), none⟩, ⟨some 37, .bin .eql (.t 35) (.t 36), none⟩]) (.kl [35, 36] (.cond (.t 37) (.kl [0, 1, 2, 7, 8, 37] (.seq (.reg [⟨some 6, .mov (.c (.bool true)), none⟩]) (.ret))) (.skip)))) (.kl [37] (.seq (.seq (.reg [⟨some 38, .mov (.t 2), none⟩, ⟨some 39, .mov (.t 1), none⟩, ⟨some 40, .bin .sub (.t 38) (.t 39), none⟩, ⟨some 41, .bin .lss (.t 40) (.c (.int .i64 50)), none⟩]) (.kl [38, 39, 40] (.cond (.t 41) (.kl [0, 1, 2, 7, 8, 41] (.seq (.reg [⟨some 6, .mov (.c (.bool false)), none⟩]) (.ret))) (.skip)))) (.kl [41] (.seq (.drw [⟨some 42, .mov (.t 0), none⟩, ⟨some 43, .mov (.t 7), none⟩, ⟨some 44, .mov (.t 0), none⟩, ⟨some 45, .mov (.t 7), none⟩, ⟨some 46, .bin .sub (.t 45) (.c (.int .i64 1)), none⟩, ⟨some 47, .mov (.t 0), none⟩, ⟨some 48, .mov (.t 7), none⟩, ⟨some 49, .bin .sub (.t 48) (.c (.int .i64 1)), none⟩, ⟨some 50, .iaddr 1 (.t 47) (.t 49), none⟩, ⟨some 51, .load false 1 (.t 50), none⟩, ⟨some 52, .mov (.t 0), none⟩, ⟨some 53, .mov (.t 7), none⟩, ⟨some 54, .iaddr 1 (.t 52) (.t 53), none⟩, ⟨some 55, .load false 1 (.t 54), none⟩, ⟨some 56, .iaddr 1 (.t 42) (.t 43), none⟩, ⟨none, .store 1 (.t 56) (.t 51), none⟩, ⟨some 57, .iaddr 1 (.t 44) (.t 46), none⟩, ⟨none, .store 1 (.t 57) (.t 55), none⟩] []) (.kl [42, 43, 44, 45, 46, 47, 48, 49, 50, 51, 52, 53, 54, 55, 56, 57] (.seq (.seq (.reg [⟨some 58, .mov (.t 7), none⟩, ⟨some 59, .mov (.t 1), none⟩, ⟨some 60, .bin .sub (.t 58) (.t 59), none⟩, ⟨some 61, .bin .geq (.t 60) (.c (.int .i64 2)), none⟩]) (.kl [58, 59, 60] (.cond (.t 61) (.kl [61] (.seq (.reg [⟨some 62, .mov (.t 7), none⟩, ⟨some 63, .bin .sub (.t 62) (.c (.int .i64 1)), none⟩, ⟨some 9, .mov (.t 63), none⟩]) (.kl [62, 63] (.blk 4 (.loop lp283_2))))) (.skip)))) (.kl [61] (.seq (.reg [⟨some 95, .mov (.t 2), none⟩, ⟨some 96, .mov (.t 7), none⟩, ⟨some 97, .bin .sub (.t 95) (.t 96), none⟩, ⟨some 98, .bin .geq (.t 97) (.c (.int .i64 2)), none⟩]) (.kl [95, 96, 97] (.cond (.t 98) (.kl [98] (.seq (.reg [⟨some 99, .mov (.t 7), none⟩, ⟨some 100, .bin .add (.t 99) (.c (.int .i64 1)), none⟩, ⟨some 10, .mov (.t 100), none⟩]) (.kl [99, 100] (.blk 6 (.loop lp283_3))))) (.skip)))))))))))))) (.kl [98] (.reg [⟨some 15, .mov (.t 8), none⟩, ⟨some 16, .bin .add (.t 15) (.c (.int .i64 1)), none⟩, ⟨some 8, .mov (.t 16), none⟩])))))
def lp283_0 : C := lb283_0
def fi283 : FI := ⟨.seq (.reg [⟨some 6, .mov (.c (.bool false)), none⟩]) (.kl [6] (.seq (.reg [⟨some 11, .mov (.t 1), none⟩, ⟨some 12, .bin .add (.t 11) (.c (.int .i64 1)), none⟩, ⟨some 7, .mov (.t 12), none⟩]) (.kl [11, 12] (.seq (.seq (.reg [⟨some 8, .mov (.c (.int .i64 0)), none⟩]) (.blk 0 (.loop lp283_0))) (.seq (.reg [⟨some 6, .mov (.c (.bool false)), none⟩]) (.ret)))))), [.tmp 6]⟩
/-- cmp.Less[string] -/
def fi284 : FI := ⟨.seq (.reg [⟨some 4, .mov (.c (.bool false)), none⟩]) (.kl [4] (.seq (.reg [⟨some 5, .mov (.t 0), none⟩, ⟨some 6, .call 292 [.t 5], none⟩, ⟨some 7, .mov (.t 6), none⟩, ⟨some 8, .mov (.t 1), some (7, true)⟩, ⟨some 9, .call 292 [.t 8], some (7, true)⟩, ⟨some 10, .un .not (.t 9), some (7, true)⟩, ⟨some 11, .pick (.t 7) (.t 10) (.c (.bool false)), none⟩, ⟨some 12, .mov (.t 11), none⟩, ⟨some 13, .mov (.t 0), some (12, false)⟩, ⟨some 14, .mov (.t 1), some (12, false)⟩, ⟨some 15, .bin .lss (.t 13) (.t 14), some (12, false)⟩, ⟨some 16, .pick (.t 12) (.c (.bool true)) (.t 15), none⟩, ⟨some 4, .mov (.t 16), none⟩]) (.kl [0, 1, 5, 6, 7, 8, 9, 10, 11, 12, 13, 14, 15, 16] (.ret)))), [.tmp 4]⟩
-- lp285_0 HEAD [0, 1, 9, 10] | exit 0: [9] | exit 2: [0, 1, 9, 10] | exit 4: [0, 1, 9, 10]
-- lp285_1 HEAD [0, 1, 9, 10] | exit 2: [0, 1, 9, 10]
-- lp285_2 HEAD [0, 1, 9, 10] | exit 4: [0, 1, 9, 10]
/-- slices.partitionEqualOrdered[string] -/
def lb285_2 : C := .kl [60, 61] (.seq (.seq (.drw [⟨some 46, .mov (.t 9), none⟩, ⟨some 47, .mov (.t 10), none⟩, ⟨some 48, .bin .leq (.t 46) (.t 47), none⟩, ⟨some 49, .mov (.t 48), none⟩, ⟨some 50, .mov (.t 0), some (49, true)⟩, ⟨some 51, .mov (.t 1), some (49, true)⟩, ⟨some 52, .iaddr 1 (.t 50) (.t 51), some (49, true)⟩, ⟨some 53, .load false 1 (.t 52), some (49, true)⟩, ⟨some 54, .mov (.t 0), some (49, true)⟩, ⟨some 55, .mov (.t 10), some (49, true)⟩, ⟨some 56, .iaddr 1 (.t 54) (.t 55), some (49, true)⟩, ⟨some 57, .load false 1 (.t 56), some (49, true)⟩, ⟨some 58, .call 284 [.t 53, .t 57], some (49, true)⟩, ⟨some 59, .pick (.t 49) (.t 58) (.c (.bool false)), none⟩] []) (.kl [46, 47, 48, 49, 50, 51, 52, 53, 54, 55, 56, 57, 58] (.cond (.t 59) (.skip) (.kl [59] (.exit 4))))) (.kl [59] (.blk 5 (.reg [⟨some 60, .mov (.t 10), none⟩, ⟨some 61, .bin .sub (.t 60) (.c (.int .i64 1)), none⟩, ⟨some 10, .mov (.t 61), none⟩]))))
def lp285_2 : C := lb285_2
def lb285_1 : C := .kl [44, 45] (.seq (.seq (.drw [⟨some 29, .mov (.t 9), none⟩, ⟨some 30, .mov (.t 10), none⟩, ⟨some 31, .bin .leq (.t 29) (.t 30), none⟩, ⟨some 32, .mov (.t 31), none⟩, ⟨some 33, .mov (.t 0), some (32, true)⟩, ⟨some 34, .mov (.t 1), some (32, true)⟩, ⟨some 35, .iaddr 1 (.t 33) (.t 34), some (32, true)⟩, ⟨some 36, .load false 1 (.t 35), some (32, true)⟩, ⟨some 37, .mov (.t 0), some (32, true)⟩, ⟨some 38, .mov (.t 9), some (32, true)⟩, ⟨some 39, .iaddr 1 (.t 37) (.t 38), some (32, true)⟩, ⟨some 40, .load false 1 (.t 39), some (32, true)⟩, ⟨some 41, .call 284 [.t 36, .t 40], some (32, true)⟩, ⟨some 42, .un .not (.t 41), some (32, true)⟩, ⟨some 43, .pick (.t 32) (.t 42) (.c (.bool false)), none⟩] []) (.kl [29, 30, 31, 32, 33, 34, 35, 36, 37, 38, 39, 40, 41, 42] (.cond (.t 43) (.skip) (.kl [43] (.exit 2))))) (.kl [43] (.blk 3 (.reg [⟨some 44, .mov (.t 9), none⟩, ⟨some 45, .bin .add (.t 44) (.c (.int .i64 1)), none⟩, ⟨some 9, .mov (.t 45), none⟩]))))
def lp285_1 : C := lb285_1
def lb285_0 : C := .kl [81, 82] (.blk 1 (.seq (.blk 2 (.loop lp285_1)) (.seq (.blk 4 (.loop lp285_2)) (.seq (.seq (.reg [⟨some 62, .mov (.t 9), none⟩, ⟨some 63, .mov (.t 10), none⟩, ⟨some 64, .bin .gtr (.t 62) (.t 63), none⟩]) (.kl [62, 63] (.cond (.t 64) (.kl [0, 1, 10, 64] (.exit 0)) (.skip)))) (.kl [64] (.seq (.drw [⟨some 65, .mov (.t 0), none⟩, ⟨some 66, .mov (.t 9), none⟩, ⟨some 67, .mov (.t 0), none⟩, ⟨some 68, .mov (.t 10), none⟩, ⟨some 69, .mov (.t 0), none⟩, ⟨some 70, .mov (.t 10), none⟩, ⟨some 71, .iaddr 1 (.t 69) (.t 70), none⟩, ⟨some 72, .load false 1 (.t 71), none⟩, ⟨some 73, .mov (.t 0), none⟩, ⟨some 74, .mov (.t 9), none⟩, ⟨some 75, .iaddr 1 (.t 73) (.t 74), none⟩, ⟨some 76, .load false 1 (.t 75), none⟩, ⟨some 77, .iaddr 1 (.t 65) (.t 66), none⟩, ⟨none, .store 1 (.t 77) (.t 72), none⟩, ⟨some 78, .iaddr 1 (.t 67) (.t 68), none⟩, ⟨none, .store 1 (.t 78) (.t 76), none⟩] []) (.kl [65, 66, 67, 68, 69, 70, 71, 72, 73, 74, 75, 76, 77, 78] (.seq (.reg [⟨some 79, .mov (.t 9), none⟩, ⟨some 80, .bin .add (.t 79) (.c (.int .i64 1)), none⟩, ⟨some 9, .mov (.t 80), none⟩]) (.kl [79, 80] (.reg [⟨some 81, .mov (.t 10), none⟩, ⟨some 82, .bin .sub (.t 81) (.c (.int .i64 1)), none⟩, ⟨some 10, .mov (.t 82), none⟩]))))))))))
def lp285_0 : C := lb285_0
def fi285 : FI := ⟨.seq (.reg [⟨some 8, .mov (.c (.int .i64 0)), none⟩]) (.kl [8] (.seq (.drw [⟨some 11, .mov (.t 0), none⟩, ⟨some 12, .mov (.t 1), none⟩, ⟨some 13, .mov (.t 0), none⟩, ⟨some 14, .mov (.t 3), none⟩, ⟨some 15, .mov (.t 0), none⟩, ⟨some 16, .mov (.t 3), none⟩, ⟨some 17, .iaddr 1 (.t 15) (.t 16), none⟩, ⟨some 18, .load false 1 (.t 17), none⟩, ⟨some 19, .mov (.t 0), none⟩, ⟨some 20, .mov (.t 1), none⟩, ⟨some 21, .iaddr 1 (.t 19) (.t 20), none⟩, ⟨some 22, .load false 1 (.t 21), none⟩, ⟨some 23, .iaddr 1 (.t 11) (.t 12), none⟩, ⟨none, .store 1 (.t 23) (.t 18), none⟩, ⟨some 24, .iaddr 1 (.t 13) (.t 14), none⟩, ⟨none, .store 1 (.t 24) (.t 22), none⟩] []) (.kl [3, 11, 12, 13, 14, 15, 16, 17, 18, 19, 20, 21, 22, 23, 24] (.seq (.reg [⟨some 25, .mov (.t 1), none⟩, ⟨some 26, .bin .add (.t 25) (.c (.int .i64 1)), none⟩, ⟨some 27, .mov (.t 2), none⟩, ⟨some 28, .bin .sub (.t 27) (.c (.int .i64 1)), none⟩, ⟨some 9, .mov (.t 26), none⟩, ⟨some 10, .mov (.t 28), none⟩]) (.kl [2, 25, 26, 27, 28] (.seq (.blk 0 (.loop lp285_0)) (.seq (.reg [⟨some 83, .mov (.t 9), none⟩, ⟨some 8, .mov (.t 83), none⟩]) (.kl [9, 83] (.ret))))))))), [.tmp 8]⟩
-- lp286_0 HEAD [0, 1, 10, 11] | exit 0: [0, 1, 10, 11]
-- lp286_1 HEAD [0, 1, 10, 11] | exit 2: [0, 1, 10, 11]
-- lp286_2 HEAD [0, 1, 10, 11] | exit 4: [0, 1, 11] | exit 6: [0, 1, 10, 11] | exit 8: [0, 1, 10, 11]
-- lp286_3 HEAD [0, 1, 10, 11] | exit 6: [0, 1, 10, 11]
-- lp286_4 HEAD [0, 1, 10, 11] | exit 8: [0, 1, 10, 11]
/-- slices.partitionOrdered[string] -/
def lb286_4 : C := .kl [130, 131] (.seq (.seq (.drw [⟨some 115, .mov (.t 10), none⟩, ⟨some 116, .mov (.t 11), none⟩, ⟨some 117, .bin .leq (.t 115) (.t 116), none⟩, ⟨some 118, .mov (.t 117), none⟩, ⟨some 119, .mov (.t 0), some (118, true)⟩, ⟨some 120, .mov (.t 11), some (118, true)⟩, ⟨some 121, .iaddr 1 (.t 119) (.t 120), some (118, true)⟩, ⟨some 122, .load false 1 (.t 121), some (118, true)⟩, ⟨some 123, .mov (.t 0), some (118, true)⟩, ⟨some 124, .mov (.t 1), some (118, true)⟩, ⟨some 125, .iaddr 1 (.t 123) (.t 124), some (118, true)⟩, ⟨some 126, .load false 1 (.t 125), some (118, true)⟩, ⟨some 127, .call 284 [.t 122, .t 126], some (118, true)⟩, ⟨some 128, .un .not (.t 127), some (118, true)⟩, ⟨some 129, .pick (.t 118) (.t 128) (.c (.bool false)), none⟩] []) (.kl [115, 116, 117, 118, 119, 120, 121, 122, 123, 124, 125, 126, 127, 128] (.cond (.t 129) (.skip) (.kl [129] (.exit 8))))) (.kl [129] (.blk 9 (.reg [⟨some 130, .mov (.t 11), none⟩, ⟨some 131, .bin .sub (.t 130) (.c (.int .i64 1)), none⟩, ⟨some 11, .mov (.t 131), none⟩]))))
def lp286_4 : C := lb286_4
def lb286_3 : C := .kl [113, 114] (.seq (.seq (.drw [⟨some 99, .mov (.t 10), none⟩, ⟨some 100, .mov (.t 11), none⟩, ⟨some 101, .bin .leq (.t 99) (.t 100), none⟩, ⟨some 102, .mov (.t 101), none⟩, ⟨some 103, .mov (.t 0), some (102, true)⟩, ⟨some 104, .mov (.t 10), some (102, true)⟩, ⟨some 105, .iaddr 1 (.t 103) (.t 104), some (102, true)⟩, ⟨some 106, .load false 1 (.t 105), some (102, true)⟩, ⟨some 107, .mov (.t 0), some (102, true)⟩, ⟨some 108, .mov (.t 1), some (102, true)⟩, ⟨some 109, .iaddr 1 (.t 107) (.t 108), some (102, true)⟩, ⟨some 110, .load false 1 (.t 109), some (102, true)⟩, ⟨some 111, .call 284 [.t 106, .t 110], some (102, true)⟩, ⟨some 112, .pick (.t 102) (.t 111) (.c (.bool false)), none⟩] []) (.kl [99, 100, 101, 102, 103, 104, 105, 106, 107, 108, 109, 110, 111] (.cond (.t 112) (.skip) (.kl [112] (.exit 6))))) (.kl [112] (.blk 7 (.reg [⟨some 113, .mov (.t 10), none⟩, ⟨some 114, .bin .add (.t 113) (.c (.int .i64 1)), none⟩, ⟨some 10, .mov (.t 114), none⟩]))))
def lp286_3 : C := lb286_3
def lb286_2 : C := .kl [151, 152] (.blk 5 (.seq (.blk 6 (.loop lp286_3)) (.seq (.blk 8 (.loop lp286_4)) (.seq (.seq (.reg [⟨some 132, .mov (.t 10), none⟩, ⟨some 133, .mov (.t 11), none⟩, ⟨some 134, .bin .gtr (.t 132) (.t 133), none⟩]) (.kl [132, 133] (.cond (.t 134) (.kl [10, 134] (.exit 4)) (.skip)))) (.kl [134] (.seq (.drw [⟨some 135, .mov (.t 0), none⟩, ⟨some 136, .mov (.t 10), none⟩, ⟨some 137, .mov (.t 0), none⟩, ⟨some 138, .mov (.t 11), none⟩, ⟨some 139, .mov (.t 0), none⟩, ⟨some 140, .mov (.t 11), none⟩, ⟨some 141, .iaddr 1 (.t 139) (.t 140), none⟩, ⟨some 142, .load false 1 (.t 141), none⟩, ⟨some 143, .mov (.t 0), none⟩, ⟨some 144, .mov (.t 10), none⟩, ⟨some 145, .iaddr 1 (.t 143) (.t 144), none⟩, ⟨some 146, .load false 1 (.t 145), none⟩, ⟨some 147, .iaddr 1 (.t 135) (.t 136), none⟩, ⟨none, .store 1 (.t 147) (.t 142), none⟩, ⟨some 148, .iaddr 1 (.t 137) (.t 138), none⟩, ⟨none, .store 1 (.t 148) (.t 146), none⟩] []) (.kl [135, 136, 137, 138, 139, 140, 141, 142, 143, 144, 145, 146, 147, 148] (.seq (.reg [⟨some 149, .mov (.t 10), none⟩, ⟨some 150, .bin .add (.t 149) (.c (.int .i64 1)), none⟩, ⟨some 10, .mov (.t 150), none⟩]) (.kl [149, 150] (.reg [⟨some 151, .mov (.t 11), none⟩, ⟨some 152, .bin .sub (.t 151) (.c (.int .i64 1)), none⟩, ⟨some 11, .mov (.t 152), none⟩]))))))))))
def lp286_2 : C := lb286_2
def lb286_1 : C := .kl [61, 62] (.seq (.seq (.drw [⟨some 46, .mov (.t 10), none⟩, ⟨some 47, .mov (.t 11), none⟩, ⟨some 48, .bin .leq (.t 46) (.t 47), none⟩, ⟨some 49, .mov (.t 48), none⟩, ⟨some 50, .mov (.t 0), some (49, true)⟩, ⟨some 51, .mov (.t 11), some (49, true)⟩, ⟨some 52, .iaddr 1 (.t 50) (.t 51), some (49, true)⟩, ⟨some 53, .load false 1 (.t 52), some (49, true)⟩, ⟨some 54, .mov (.t 0), some (49, true)⟩, ⟨some 55, .mov (.t 1), some (49, true)⟩, ⟨some 56, .iaddr 1 (.t 54) (.t 55), some (49, true)⟩, ⟨some 57, .load false 1 (.t 56), some (49, true)⟩, ⟨some 58, .call 284 [.t 53, .t 57], some (49, true)⟩, ⟨some 59, .un .not (.t 58), some (49, true)⟩, ⟨some 60, .pick (.t 49) (.t 59) (.c (.bool false)), none⟩] []) (.kl [46, 47, 48, 49, 50, 51, 52, 53, 54, 55, 56, 57, 58, 59] (.cond (.t 60) (.skip) (.kl [60] (.exit 2))))) (.kl [60] (.blk 3 (.reg [⟨some 61, .mov (.t 11), none⟩, ⟨some 62, .bin .sub (.t 61) (.c (.int .i64 1)), none⟩, ⟨some 11, .mov (.t 62), none⟩]))))
def lp286_1 : C := lb286_1
def lb286_0 : C := .kl [44, 45] (.seq (.seq (.drw [⟨some 30, .mov (.t 10), none⟩, ⟨some 31, .mov (.t 11), none⟩, ⟨some 32, .bin .leq (.t 30) (.t 31), none⟩, ⟨some 33, .mov (.t 32), none⟩, ⟨some 34, .mov (.t 0), some (33, true)⟩, ⟨some 35, .mov (.t 10), some (33, true)⟩, ⟨some 36, .iaddr 1 (.t 34) (.t 35), some (33, true)⟩, ⟨some 37, .load false 1 (.t 36), some (33, true)⟩, ⟨some 38, .mov (.t 0), some (33, true)⟩, ⟨some 39, .mov (.t 1), some (33, true)⟩, ⟨some 40, .iaddr 1 (.t 38) (.t 39), some (33, true)⟩, ⟨some 41, .load false 1 (.t 40), some (33, true)⟩, ⟨some 42, .call 284 [.t 37, .t 41], some (33, true)⟩, ⟨some 43, .pick (.t 33) (.t 42) (.c (.bool false)), none⟩] []) (.kl [30, 31, 32, 33, 34, 35, 36, 37, 38, 39, 40, 41, 42] (.cond (.t 43) (.skip) (.kl [43] (.exit 0))))) (.kl [43] (.blk 1 (.reg [⟨some 44, .mov (.t 10), none⟩, ⟨some 45, .bin .add (.t 44) (.c (.int .i64 1)), none⟩, ⟨some 10, .mov (.t 45), none⟩]))))
def lp286_0 : C := lb286_0
def fi286 : FI := ⟨.seq (.reg [⟨some 8, .mov (.c (.int .i64 0)), none⟩, ⟨some 9, .mov (.c (.bool false)), none⟩]) (.kl [8, 9] (.seq (.drw [⟨some 12, .mov (.t 0), none⟩, ⟨some 13, .mov (.t 1), none⟩, ⟨some 14, .mov (.t 0), none⟩, ⟨some 15, .mov (.t 3), none⟩, ⟨some 16, .mov (.t 0), none⟩, ⟨some 17, .mov (.t 3), none⟩, ⟨some 18, .iaddr 1 (.t 16) (.t 17), none⟩, ⟨some 19, .load false 1 (.t 18), none⟩, ⟨some 20, .mov (.t 0), none⟩, ⟨some 21, .mov (.t 1), none⟩, ⟨some 22, .iaddr 1 (.t 20) (.t 21), none⟩, ⟨some 23, .load false 1 (.t 22), none⟩, ⟨some 24, .iaddr 1 (.t 12) (.t 13), none⟩, ⟨none, .store 1 (.t 24) (.t 19), none⟩, ⟨some 25, .iaddr 1 (.t 14) (.t 15), none⟩, ⟨none, .store 1 (.t 25) (.t 23), none⟩] []) (.kl [3, 12, 13, 14, 15, 16, 17, 18, 19, 20, 21, 22, 23, 24, 25] (.seq (.reg [⟨some 26, .mov (.t 1), none⟩, ⟨some 27, .bin .add (.t 26) (.c (.int .i64 1)), none⟩, ⟨some 28, .mov (.t 2), none⟩, ⟨some 29, .bin .sub (.t 28) (.c (.int .i64 1)), none⟩, ⟨some 10, .mov (.t 27), none⟩, ⟨some 11, .mov (.t 29), none⟩]) (.kl [2, 26, 27, 28, 29] (.seq (.blk 0 (.loop lp286_0)) (.seq (.blk 2 (.loop lp286_1)) (.seq (.seq (.reg [⟨some 63, .mov (.t 10), none⟩, ⟨some 64, .mov (.t 11), none⟩, ⟨some 65, .bin .gtr (.t 63) (.t 64), none⟩]) (.kl [63, 64] (.cond (.t 65) (.kl [10, 65] (.seq (.drw [⟨some 66, .mov (.t 0), none⟩, ⟨some 67, .mov (.t 11), none⟩, ⟨some 68, .mov (.t 0), none⟩, ⟨some 69, .mov (.t 1), none⟩, ⟨some 70, .mov (.t 0), none⟩, ⟨some 71, .mov (.t 1), none⟩, ⟨some 72, .iaddr 1 (.t 70) (.t 71), none⟩, ⟨some 73, .load false 1 (.t 72), none⟩, ⟨some 74, .mov (.t 0), none⟩, ⟨some 75, .mov (.t 11), none⟩, ⟨some 76, .iaddr 1 (.t 74) (.t 75), none⟩, ⟨some 77, .load false 1 (.t 76), none⟩, ⟨some 78, .iaddr 1 (.t 66) (.t 67), none⟩, ⟨none, .store 1 (.t 78) (.t 73), none⟩, ⟨some 79, .iaddr 1 (.t 68) (.t 69), none⟩, ⟨none, .store 1 (.t 79) (.t 77), none⟩] []) (.kl [0, 1, 66, 67, 68, 69, 70, 71, 72, 73, 74, 75, 76, 77, 78, 79] (.seq (.reg [⟨some 80, .mov (.t 11), none⟩, ⟨some 8, .mov (.t 80), none⟩, ⟨some 9, .mov (.c (.bool true)), none⟩]) (.kl [11, 80] (.ret)))))) (.skip)))) (.kl [65] (.seq (.drw [⟨some 81, .mov (.t 0), none⟩, ⟨some 82, .mov (.t 10), none⟩, ⟨some 83, .mov (.t 0), none⟩, ⟨some 84, .mov (.t 11), none⟩, ⟨some 85, .mov (.t 0), none⟩, ⟨some 86, .mov (.t 11), none⟩, ⟨some 87, .iaddr 1 (.t 85) (.t 86), none⟩, ⟨some 88, .load false 1 (.t 87), none⟩, ⟨some 89, .mov (.t 0), none⟩, ⟨some 90, .mov (.t 10), none⟩, ⟨some 91, .iaddr 1 (.t 89) (.t 90), none⟩, ⟨some 92, .load false 1 (.t 91), none⟩, ⟨some 93, .iaddr 1 (.t 81) (.t 82), none⟩, ⟨none, .store 1 (.t 93) (.t 88), none⟩, ⟨some 94, .iaddr 1 (.t 83) (.t 84), none⟩, ⟨none, .store 1 (.t 94) (.t 92), none⟩] []) (.kl [81, 82, 83, 84, 85, 86, 87, 88, 89, 90, 91, 92, 93, 94] (.seq (.reg [⟨some 95, .mov (.t 10), none⟩, ⟨some 96, .bin .add (.t 95) (.c (.int .i64 1)), none⟩, ⟨some 10, .mov (.t 96), none⟩]) (.kl [95, 96] (.seq (.reg [⟨some 97, .mov (.t 11), none⟩, ⟨some 98, .bin .sub (.t 97) (.c (.int .i64 1)), none⟩, ⟨some 11, .mov (.t 98), none⟩]) (.kl [97, 98] (.seq (.blk 4 (.loop lp286_2)) (.seq (.drw [⟨some 153, .mov (.t 0), none⟩, ⟨some 154, .mov (.t 11), none⟩, ⟨some 155, .mov (.t 0), none⟩, ⟨some 156, .mov (.t 1), none⟩, ⟨some 157, .mov (.t 0), none⟩, ⟨some 158, .mov (.t 1), none⟩, ⟨some 159, .iaddr 1 (.t 157) (.t 158), none⟩, ⟨some 160, .load false 1 (.t 159), none⟩, ⟨some 161, .mov (.t 0), none⟩, ⟨some 162, .mov (.t 11), none⟩, ⟨some 163, .iaddr 1 (.t 161) (.t 162), none⟩, ⟨some 164, .load false 1 (.t 163), none⟩, ⟨some 165, .iaddr 1 (.t 153) (.t 154), none⟩, ⟨none, .store 1 (.t 165) (.t 160), none⟩, ⟨some 166, .iaddr 1 (.t 155) (.t 156), none⟩, ⟨none, .store 1 (.t 166) (.t 164), none⟩] []) (.kl [0, 1, 153, 154, 155, 156, 157, 158, 159, 160, 161, 162, 163, 164, 165, 166] (.seq (.reg [⟨some 167, .mov (.t 11), none⟩, ⟨some 8, .mov (.t 167), none⟩, ⟨some 9, .mov (.c (.bool false)), none⟩]) (.kl [11, 167] (.ret))))))))))))))))))))), [.tmp 8, .tmp 9]⟩
-- lp287_0 HEAD [0, 2, 3, 8] | exit 0: [] | ret: []
/-- slices.siftDownOrdered[string] -/
def lb287_0 : C := .kl [9, 75] (.blk 1 (.seq (.reg [⟨some 11, .mov (.t 8), none⟩, ⟨some 12, .bin .mul (.c (.int .i64 2)) (.t 11), none⟩, ⟨some 13, .bin .add (.t 12) (.c (.int .i64 1)), none⟩, ⟨some 9, .mov (.t 13), none⟩]) (.kl [11, 12, 13] (.seq (.seq (.reg [⟨some 14, .mov (.t 9), none⟩, ⟨some 15, .mov (.t 2), none⟩, ⟨some 16, .bin .geq (.t 14) (.t 15), none⟩]) (.kl [14, 15] (.cond (.t 16) (.kl [0, 2, 3, 8, 9, 16] (.exit 0)) (.skip)))) (.kl [16] (.seq (.seq (.drw [⟨some 17, .mov (.t 9), none⟩, ⟨some 18, .bin .add (.t 17) (.c (.int .i64 1)), none⟩, ⟨some 19, .mov (.t 2), none⟩, ⟨some 20, .bin .lss (.t 18) (.t 19), none⟩, ⟨some 21, .mov (.t 20), none⟩, ⟨some 22, .mov (.t 0), some (21, true)⟩, ⟨some 23, .mov (.t 3), some (21, true)⟩, ⟨some 24, .mov (.t 9), some (21, true)⟩, ⟨some 25, .bin .add (.t 23) (.t 24), some (21, true)⟩, ⟨some 26, .iaddr 1 (.t 22) (.t 25), some (21, true)⟩, ⟨some 27, .load false 1 (.t 26), some (21, true)⟩, ⟨some 28, .mov (.t 0), some (21, true)⟩, ⟨some 29, .mov (.t 3), some (21, true)⟩, ⟨some 30, .mov (.t 9), some (21, true)⟩, ⟨some 31, .bin .add (.t 29) (.t 30), some (21, true)⟩, ⟨some 32, .bin .add (.t 31) (.c (.int .i64 1)), some (21, true)⟩, ⟨some 33, .iaddr 1 (.t 28) (.t 32), some (21, true)⟩, ⟨some 34, .load false 1 (.t 33), some (21, true)⟩, ⟨some 35, .call 284 [.t 27, .t 34], some (21, true)⟩, ⟨some 36, .pick (.t 21) (.t 35) (.c (.bool false)), none⟩] []) (.kl [17, 18, 19, 20, 21, 22, 23, 24, 25, 26, 27, 28, 29, 30, 31, 32, 33, 34, 35] (.cond (.t 36) (.kl [36] (.reg [⟨some 37, .mov (.t 9), none⟩, ⟨some 38, .bin .add (.t 37) (.c (.int .i64 1)), none⟩, ⟨some 9, .mov (.t 38), none⟩])) (.skip)))) (.kl [36, 37, 38] (.seq (.seq (.drw [⟨some 39, .mov (.t 0), none⟩, ⟨some 40, .mov (.t 3), none⟩, ⟨some 41, .mov (.t 8), none⟩, ⟨some 42, .bin .add (.t 40) (.t 41), none⟩, ⟨some 43, .iaddr 1 (.t 39) (.t 42), none⟩, ⟨some 44, .load false 1 (.t 43), none⟩, ⟨some 45, .mov (.t 0), none⟩, ⟨some 46, .mov (.t 3), none⟩, ⟨some 47, .mov (.t 9), none⟩, ⟨some 48, .bin .add (.t 46) (.t 47), none⟩, ⟨some 49, .iaddr 1 (.t 45) (.t 48), none⟩, ⟨some 50, .load false 1 (.t 49), none⟩, ⟨some 51, .call 284 [.t 44, .t 50], none⟩, ⟨some 52, .un .not (.t 51), none⟩] []) (.kl [39, 40, 41, 42, 43, 44, 45, 46, 47, 48, 49, 50, 51] (.cond (.t 52) (.kl [0, 2, 3, 8, 9, 52] (.ret)) (.skip)))) (.kl [52] (.seq (.drw [⟨some 53, .mov (.t 0), none⟩, ⟨some 54, .mov (.t 3), none⟩, ⟨some 55, .mov (.t 8), none⟩, ⟨some 56, .bin .add (.t 54) (.t 55), none⟩, ⟨some 57, .mov (.t 0), none⟩, ⟨some 58, .mov (.t 3), none⟩, ⟨some 59, .mov (.t 9), none⟩, ⟨some 60, .bin .add (.t 58) (.t 59), none⟩, ⟨some 61, .mov (.t 0), none⟩, ⟨some 62, .mov (.t 3), none⟩, ⟨some 63, .mov (.t 9), none⟩, ⟨some 64, .bin .add (.t 62) (.t 63), none⟩, ⟨some 65, .iaddr 1 (.t 61) (.t 64), none⟩, ⟨some 66, .load false 1 (.t 65), none⟩, ⟨some 67, .mov (.t 0), none⟩, ⟨some 68, .mov (.t 3), none⟩, ⟨some 69, .mov (.t 8), none⟩, ⟨some 70, .bin .add (.t 68) (.t 69), none⟩, ⟨some 71, .iaddr 1 (.t 67) (.t 70), none⟩, ⟨some 72, .load false 1 (.t 71), none⟩, ⟨some 73, .iaddr 1 (.t 53) (.t 56), none⟩, ⟨none, .store 1 (.t 73) (.t 66), none⟩, ⟨some 74, .iaddr 1 (.t 57) (.t 60), none⟩, ⟨none, .store 1 (.t 74) (.t 72), none⟩] []) (.kl [8, 53, 54, 55, 56, 57, 58, 59, 60, 61, 62, 63, 64, 65, 66, 67, 68, 69, 70, 71, 72, 73, 74] (.reg [⟨some 75, .mov (.t 9), none⟩, ⟨some 8, .mov (.t 75), none⟩]))))))))))))
def lp287_0 : C := lb287_0
def fi287 : FI := ⟨.seq (.reg [⟨some 10, .mov (.t 1), none⟩, ⟨some 8, .mov (.t 10), none⟩]) (.kl [1, 10] (.blk 0 (.loop lp287_0))), []⟩
/-- slices.nextPowerOfTwo -/
def fi288 : FI := ⟨.seq (.reg [⟨some 2, .mov (.c (.int .u64 0)), none⟩]) (.kl [2] (.seq (.reg [⟨some 3, .mov (.t 0), none⟩, ⟨some 4, .conv .u64 (.t 3), none⟩, ⟨some 5, .call 276 [.t 4], none⟩, ⟨some 6, .bin .shl (.c (.int .u64 1)) (.t 5), none⟩, ⟨some 2, .mov (.t 6), none⟩]) (.kl [0, 3, 4, 5, 6] (.ret)))), [.tmp 2]⟩
/-- slices.medianAdjacentOrdered[string] -/
def fi290 : FI := ⟨.seq (.reg [⟨some 6, .mov (.c (.int .i64 0)), none⟩]) (.kl [6] (.seq (.reg [⟨some 7, .mov (.t 0), none⟩, ⟨some 8, .mov (.t 1), none⟩, ⟨some 9, .bin .sub (.t 8) (.c (.int .i64 1)), none⟩, ⟨some 10, .mov (.t 1), none⟩, ⟨some 11, .mov (.t 1), none⟩, ⟨some 12, .bin .add (.t 11) (.c (.int .i64 1)), none⟩, ⟨some 13, .mov (.t 2), none⟩, ⟨some 14, .call 291 [.t 7, .t 9, .t 10, .t 12, .t 13], none⟩, ⟨some 6, .mov (.t 14), none⟩]) (.kl [0, 1, 2, 7, 8, 9, 10, 11, 12, 13, 14] (.ret)))), [.tmp 6]⟩
/-- slices.medianOrdered[string] -/
def fi291 : FI := ⟨.seq (.reg [⟨some 10, .mov (.c (.int .i64 0)), none⟩]) (.kl [10] (.seq (.reg [⟨some 12, .mov (.t 0), none⟩, ⟨some 13, .mov (.t 1), none⟩, ⟨some 14, .mov (.t 2), none⟩, ⟨some 15, .mov (.t 4), none⟩, ⟨some 16, .call 293 [.t 12, .t 13, .t 14, .t 15], none⟩, ⟨some 11, .mov (.t 16), none⟩, ⟨some 17, .prj 0 (.t 11), none⟩, ⟨some 18, .prj 1 (.t 11), none⟩, ⟨some 1, .mov (.t 17), none⟩, ⟨some 2, .mov (.t 18), none⟩]) (.kl [11, 12, 13, 14, 15, 16, 17, 18] (.seq (.reg [⟨some 20, .mov (.t 0), none⟩, ⟨some 21, .mov (.t 2), none⟩, ⟨some 22, .mov (.t 3), none⟩, ⟨some 23, .mov (.t 4), none⟩, ⟨some 24, .call 293 [.t 20, .t 21, .t 22, .t 23], none⟩, ⟨some 19, .mov (.t 24), none⟩, ⟨some 25, .prj 0 (.t 19), none⟩, ⟨some 26, .prj 1 (.t 19), none⟩, ⟨some 2, .mov (.t 25), none⟩, ⟨some 3, .mov (.t 26), none⟩]) (.kl [3, 19, 20, 21, 22, 23, 24, 25, 26] (.seq (.reg [⟨some 28, .mov (.t 0), none⟩, ⟨some 29, .mov (.t 1), none⟩, ⟨some 30, .mov (.t 2), none⟩, ⟨some 31, .mov (.t 4), none⟩, ⟨some 32, .call 293 [.t 28, .t 29, .t 30, .t 31], none⟩, ⟨some 27, .mov (.t 32), none⟩, ⟨some 33, .prj 0 (.t 27), none⟩, ⟨some 34, .prj 1 (.t 27), none⟩, ⟨some 1, .mov (.t 33), none⟩, ⟨some 2, .mov (.t 34), none⟩]) (.kl [0, 1, 4, 27, 28, 29, 30, 31, 32, 33, 34] (.seq (.reg [⟨some 35, .mov (.t 2), none⟩, ⟨some 10, .mov (.t 35), none⟩]) (.kl [2, 35] (.ret)))))))))), [.tmp 10]⟩
/-- cmp.isNaN[string] -/
def fi292 : FI := ⟨.seq (.reg [⟨some 2, .mov (.c (.bool false)), none⟩]) (.kl [2] (.seq (.reg [⟨some 3, .mov (.t 0), none⟩, ⟨some 4, .mov (.t 0), none⟩, ⟨some 5, .bin .neq (.t 3) (.t 4), none⟩, ⟨some 2, .mov (.t 5), none⟩]) (.kl [0, 3, 4, 5] (.ret)))), [.tmp 2]⟩
/-- slices.order2Ordered[string] -/
def fi293 : FI := ⟨.seq (.reg [⟨some 8, .mov (.c (.int .i64 0)), none⟩, ⟨some 9, .mov (.c (.int .i64 0)), none⟩]) (.kl [8, 9] (.seq (.seq (.drw [⟨some 10, .mov (.t 0), none⟩, ⟨some 11, .mov (.t 2), none⟩, ⟨some 12, .iaddr 1 (.t 10) (.t 11), none⟩, ⟨some 13, .load false 1 (.t 12), none⟩, ⟨some 14, .mov (.t 0), none⟩, ⟨some 15, .mov (.t 1), none⟩, ⟨some 16, .iaddr 1 (.t 14) (.t 15), none⟩, ⟨some 17, .load false 1 (.t 16), none⟩, ⟨some 18, .call 284 [.t 13, .t 17], none⟩] []) (.kl [0, 10, 11, 12, 13, 14, 15, 16, 17] (.cond (.t 18) (.kl [18] (.seq (.reg [⟨some 19, .mov (.t 3), none⟩, ⟨some 20, .nck (.t 19), none⟩, ⟨some 21, .load false 1 (.t 20), none⟩, ⟨some 22, .bin .add (.t 21) (.c (.int .i64 1)), none⟩, ⟨some 23, .nck (.t 19), none⟩, ⟨none, .store 1 (.t 23) (.t 22), none⟩]) (.kl [3, 19, 20, 21, 22, 23] (.seq (.reg [⟨some 24, .mov (.t 2), none⟩, ⟨some 25, .mov (.t 1), none⟩, ⟨some 8, .mov (.t 24), none⟩, ⟨some 9, .mov (.t 25), none⟩]) (.kl [1, 2, 24, 25] (.ret)))))) (.skip)))) (.kl [3, 18] (.seq (.reg [⟨some 26, .mov (.t 1), none⟩, ⟨some 27, .mov (.t 2), none⟩, ⟨some 8, .mov (.t 26), none⟩, ⟨some 9, .mov (.t 27), none⟩]) (.kl [1, 2, 26, 27] (.ret)))))), [.tmp 8, .tmp 9]⟩

def tab : List (Nat × FI) := [(224, fi224), (294, fi294), (225, fi225), (226, fi226), (227, fi227), (228, fi228), (229, fi229), (295, fi295), (296, fi296), (233, fi233), (234, fi234), (235, fi235), (236, fi236), (238, fi238), (237, fi237), (239, fi239), (240, fi240), (58, fi58), (268, fi268), (297, fi297), (56, fi56), (300, fi300), (299, fi299), (298, fi298), (273, fi273), (301, fi301), (306, fi306), (305, fi305), (104, fi104), (242, fi242), (116, fi116), (243, fi243), (119, fi119), (244, fi244), (66, fi66), (82, fi82), (245, fi245), (189, fi189), (246, fi246), (248, fi248), (105, fi105), (247, fi247), (252, fi252), (61, fi61), (118, fi118), (129, fi129), (251, fi251), (302, fi302), (303, fi303), (304, fi304), (307, fi307), (77, fi77), (100, fi100), (250, fi250), (130, fi130), (108, fi108), (74, fi74), (253, fi253), (205, fi205), (127, fi127), (124, fi124), (308, fi308), (277, fi277), (103, fi103), (125, fi125), (109, fi109), (278, fi278), (279, fi279), (280, fi280), (281, fi281), (282, fi282), (283, fi283), (284, fi284), (285, fi285), (286, fi286), (287, fi287), (288, fi288), (290, fi290), (291, fi291), (292, fi292), (293, fi293)]
def T (f : Nat) : Option FI := (tab.find? fun x => x.1 == f).map (·.2)
theorem T224 : T 224 = some fi224 := rfl
theorem T294 : T 294 = some fi294 := rfl
theorem T225 : T 225 = some fi225 := rfl
theorem T226 : T 226 = some fi226 := rfl
theorem T227 : T 227 = some fi227 := rfl
theorem T228 : T 228 = some fi228 := rfl
theorem T229 : T 229 = some fi229 := rfl
theorem T295 : T 295 = some fi295 := rfl
theorem T296 : T 296 = some fi296 := rfl
theorem T233 : T 233 = some fi233 := rfl
theorem T234 : T 234 = some fi234 := rfl
theorem T235 : T 235 = some fi235 := rfl
theorem T236 : T 236 = some fi236 := rfl
theorem T238 : T 238 = some fi238 := rfl
theorem T237 : T 237 = some fi237 := rfl
theorem T239 : T 239 = some fi239 := rfl
theorem T240 : T 240 = some fi240 := rfl
theorem T58 : T 58 = some fi58 := rfl
theorem T268 : T 268 = some fi268 := rfl
theorem T297 : T 297 = some fi297 := rfl
theorem T56 : T 56 = some fi56 := rfl
theorem T300 : T 300 = some fi300 := rfl
theorem T299 : T 299 = some fi299 := rfl
theorem T298 : T 298 = some fi298 := rfl
theorem T273 : T 273 = some fi273 := rfl
theorem T301 : T 301 = some fi301 := rfl
theorem T306 : T 306 = some fi306 := rfl
theorem T305 : T 305 = some fi305 := rfl
theorem T104 : T 104 = some fi104 := rfl
theorem T242 : T 242 = some fi242 := rfl
theorem T116 : T 116 = some fi116 := rfl
theorem T243 : T 243 = some fi243 := rfl
theorem T119 : T 119 = some fi119 := rfl
theorem T244 : T 244 = some fi244 := rfl
theorem T66 : T 66 = some fi66 := rfl
theorem T82 : T 82 = some fi82 := rfl
theorem T245 : T 245 = some fi245 := rfl
theorem T189 : T 189 = some fi189 := rfl
theorem T246 : T 246 = some fi246 := rfl
theorem T248 : T 248 = some fi248 := rfl
theorem T105 : T 105 = some fi105 := rfl
theorem T247 : T 247 = some fi247 := rfl
theorem T252 : T 252 = some fi252 := rfl
theorem T61 : T 61 = some fi61 := rfl
theorem T118 : T 118 = some fi118 := rfl
theorem T129 : T 129 = some fi129 := rfl
theorem T251 : T 251 = some fi251 := rfl
theorem T302 : T 302 = some fi302 := rfl
theorem T303 : T 303 = some fi303 := rfl
theorem T304 : T 304 = some fi304 := rfl
theorem T307 : T 307 = some fi307 := rfl
theorem T77 : T 77 = some fi77 := rfl
theorem T100 : T 100 = some fi100 := rfl
theorem T250 : T 250 = some fi250 := rfl
theorem T130 : T 130 = some fi130 := rfl
theorem T108 : T 108 = some fi108 := rfl
theorem T74 : T 74 = some fi74 := rfl
theorem T253 : T 253 = some fi253 := rfl
theorem T205 : T 205 = some fi205 := rfl
theorem T127 : T 127 = some fi127 := rfl
theorem T124 : T 124 = some fi124 := rfl
theorem T308 : T 308 = some fi308 := rfl
theorem T277 : T 277 = some fi277 := rfl
theorem T103 : T 103 = some fi103 := rfl
theorem T125 : T 125 = some fi125 := rfl
theorem T109 : T 109 = some fi109 := rfl
theorem T278 : T 278 = some fi278 := rfl
theorem T279 : T 279 = some fi279 := rfl
theorem T280 : T 280 = some fi280 := rfl
theorem T281 : T 281 = some fi281 := rfl
theorem T282 : T 282 = some fi282 := rfl
theorem T283 : T 283 = some fi283 := rfl
theorem T284 : T 284 = some fi284 := rfl
theorem T285 : T 285 = some fi285 := rfl
theorem T286 : T 286 = some fi286 := rfl
theorem T287 : T 287 = some fi287 := rfl
theorem T288 : T 288 = some fi288 := rfl
theorem T290 : T 290 = some fi290 := rfl
theorem T291 : T 291 = some fi291 := rfl
theorem T292 : T 292 = some fi292 := rfl
theorem T293 : T 293 = some fi293 := rfl
end Go.Proofs.YtcflenomogpdbaaDoor.Ab
-- EXT slices.Sort[[]string,string]
-- EXT strings.Trim
-- EXT strings.Count
-- EXT strings.Repeat
-- EXT strings.Contains
-- EXT strings.Index
-- EXT strings.IndexByte
-- XF slices.Sort[[]string,string]|52|31, 9

/- RULES for reckoning with the evaluator: fuel is bounded by no one. -/
namespace Go.Proofs.YtcflenomogpdbaaDoor.Ab
open Go

def CF.le (a b : CF) : Prop := ∀ f xs h r, a f xs h = some r → b f xs h = some r
theorem CF.le_refl (a : CF) : a.le a := fun _ _ _ _ h => h

def AOp.isCall : AOp → Bool
  | .call .. | .callv .. => true
  | _ => false

section
variable {cf cf' : CF} {ρ : Opd → AV} {h : AH} {e : Env}

theorem evOp_mono (hle : cf.le cf') {i : AOp} {x : AV × AH} (hev : evOp cf ρ h i = some x) : evOp cf' ρ h i = some x := by
  cases i <;> first
    | exact hev
    | (simp only [evOp] at hev ⊢; exact hle _ _ _ _ hev)
    | (simp only [evOp] at hev ⊢
       split at hev
       · exact hle _ _ _ _ hev
       · cases hev)
theorem evOp_any {i : AOp} (hi : i.isCall = false) (cf cf' : CF) : evOp cf ρ h i = evOp cf' ρ h i := by
  cases i <;> first
    | rfl
    | (simp [AOp.isCall] at hi; done)

theorem evI_mono (hle : cf.le cf') {i : I} {x : Env × AH} (hev : evI cf i e h = some x) : evI cf' i e h = some x := by
  have key : ∀ x, (evOp cf (env e) h i.op).map (fun (v, h') => (put e i.dst v, h')) = some x → (evOp cf' (env e) h i.op).map (fun (v, h') => (put e i.dst v, h')) = some x := by
    intro x hx
    simp only [Option.map_eq_some_iff] at hx ⊢
    obtain ⟨y, hy, he⟩ := hx
    exact ⟨y, evOp_mono hle hy, he⟩
  unfold evI at hev ⊢
  split at hev
  · exact key _ hev
  · split at hev
    · split at hev
      · rename_i h1; rw [if_pos h1]; exact key _ hev
      · rename_i h1; rw [if_neg h1]; exact hev
    · exact hev
    · cases hev

theorem evR_mono (hle : cf.le cf') : ∀ {is : List I} {e : Env} {h : AH} {x : Env × AH}, evR cf is e h = some x → evR cf' is e h = some x
  | [], _, _, _, hev => hev
  | i :: is, e, h, x, hev => by
    simp only [evR] at hev ⊢
    split at hev
    · rename_i e1 h1 h2
      rw [evI_mono hle h2]
      exact evR_mono hle hev
    · cases hev

theorem state_some : ∀ {is : List I} {e : Env} {h : AH} {x : Env × AH}, evR cf is e h = some x → ∀ i, ∃ s, stateAt cf is i e h = some s
  | [], e, h, x, hev, i => ⟨(e, h), by simp [stateAt, evR]⟩
  | j :: is, e, h, x, hev, i => by
    cases i with
    | zero => exact ⟨(e, h), by simp [stateAt, evR]⟩
    | succ i =>
      simp only [evR] at hev
      split at hev
      · rename_i e1 h1 h2
        obtain ⟨s, hs⟩ := state_some hev i
        refine ⟨s, ?_⟩
        simp only [stateAt, List.take_succ_cons, evR, h2]
        exact hs
      · cases hev

theorem evDraw_mono (hle : cf.le cf') {is : List I} {ps : List (Nat × Nat)} {x : Env × AH} (hev : evDraw cf is ps e h = some x) : evDraw cf' is ps e h = some x := by
  unfold evDraw at hev ⊢
  split at hev
  · rename_i hst
    rw [if_pos]
    · exact evR_mono hle hev
    · intro p hp o e1 h1 e2 h2 e3 h3 k0 k1 k2 k3
      obtain ⟨s1, g1⟩ := state_some hev p.1
      obtain ⟨s2, g2⟩ := state_some hev p.2
      obtain ⟨s3, g3⟩ := state_some hev (p.2 + 1)
      have m1 := evR_mono hle g1
      have m2 := evR_mono hle g2
      have m3 := evR_mono hle g3
      unfold stateAt at k1 k2 k3
      rw [m1] at k1; rw [m2] at k2; rw [m3] at k3
      cases k1; cases k2; cases k3
      exact hst p hp o e1 h1 e2 h2 e3 h3 k0 g1 g2 g3
  · cases hev

theorem evLoop_mono {s s' : Env → AH → Option (X × Env × AH)} (hs : ∀ e h x, s e h = some x → s' e h = some x) : ∀ {n n' : Nat}, n ≤ n' → ∀ {e : Env} {h : AH} {x}, evLoop s n e h = some x → evLoop s' n' e h = some x
  | 0, _, _, _, _, _, hev => by simp [evLoop] at hev
  | n + 1, 0, hn, _, _, _, _ => by omega
  | n + 1, n' + 1, hn, e, h, x, hev => by
    simp only [evLoop] at hev ⊢
    cases hst : s e h with
    | none => rw [hst] at hev; simp at hev
    | some y =>
      rw [hst] at hev
      rw [hs _ _ _ hst]
      obtain ⟨x1, e1, h1⟩ := y
      cases x1 with
      | normal => exact evLoop_mono hs (by omega) hev
      | exit i => exact hev
      | ret => exact hev

theorem evC_mono (hle : cf.le cf') {n n' : Nat} (hn : n ≤ n') : ∀ (c : C) {e : Env} {h : AH} {x}, evC cf n c e h = some x → evC cf' n' c e h = some x := by
  intro c
  induction c with
  | skip => intro e h x hev; exact hev
  | reg is =>
    intro e h x hev
    simp only [evC, Option.map_eq_some_iff] at hev ⊢
    obtain ⟨y, hy, he⟩ := hev
    exact ⟨y, evR_mono hle hy, he⟩
  | drw is ps =>
    intro e h x hev
    simp only [evC, Option.map_eq_some_iff] at hev ⊢
    obtain ⟨y, hy, he⟩ := hev
    exact ⟨y, evDraw_mono hle hy, he⟩
  | kl ts c ih => intro e h x hev; simp only [evC] at hev ⊢; exact ih hev
  | seq a b iha ihb =>
    intro e h x hev
    simp only [evC] at hev ⊢
    cases ha : evC cf n a e h with
    | none => rw [ha] at hev; simp at hev
    | some y =>
      rw [ha] at hev
      rw [iha ha]
      obtain ⟨x1, e1, h1⟩ := y
      cases x1 with
      | normal => exact ihb hev
      | exit i => exact hev
      | ret => exact hev
  | cond y a b iha ihb =>
    intro e h x hev
    simp only [evC] at hev ⊢
    split at hev
    · rename_i t ht
      split at hev
      · rename_i h1; rw [if_pos h1]; exact iha hev
      · rename_i h1; rw [if_neg h1]; exact ihb hev
    · cases hev
  | blk id a ih =>
    intro e h x hev
    simp only [evC] at hev ⊢
    cases ha : evC cf n a e h with
    | none => rw [ha] at hev; simp at hev
    | some y =>
      rw [ha] at hev
      rw [ih ha]
      exact hev
  | loop a ih =>
    intro e h x hev
    simp only [evC] at hev ⊢
    exact evLoop_mono (fun _ _ _ hh => ih hh) hn hev
  | exit i => intro e h x hev; exact hev
  | ret => intro e h x hev; exact hev
  | bad => intro e h x hev; simp [evC] at hev
end

def EMono (E : Ext) : Prop := ∀ f G, E f = some G → ∀ cf cf' : CF, cf.le cf' → ∀ xs h r, G cf xs h = some r → G cf' xs h = some r

theorem evF_mono {T : Nat → Option FI} {E : Ext} (hE : EMono E) : ∀ {n n' : Nat}, n ≤ n' → (evF T E n).le (evF T E n')
  | 0, _, _ => by intro f xs h r hev; simp [evF] at hev
  | n + 1, 0, hn => by omega
  | n + 1, n' + 1, hn => by
    intro f xs h r hev
    have ih := evF_mono (T := T) hE (show n ≤ n' by omega)
    simp only [evF] at hev ⊢
    split at hev
    · rename_i G hG
      exact hE f G hG _ _ ih _ _ _ hev
    · split at hev
      · rename_i fi hfi
        cases hc : evC (evF T E n) n fi.body (Env.init 0 xs) h with
        | none => rw [hc] at hev; cases hev
        | some y => rw [hc] at hev; rw [evC_mono ih (by omega) _ hc]; exact hev
      · cases hev

/-! ### The rules -/
section
variable (T : Nat → Option FI) (E : Ext)

def Spec (f : Nat) (xs : List AV) (h : AH) (post : AV → AH → Prop) : Prop := ∃ n r h', evF T E n f xs h = some (r, h') ∧ post r h'
def WC (c : C) (e : Env) (h : AH) (Q : X → Env → AH → Prop) : Prop := ∃ n x e' h', evC (evF T E n) n c e h = some (x, e', h') ∧ Q x e' h'
def WR (is : List I) (e : Env) (h : AH) (Q : Env → AH → Prop) : Prop := ∃ n e' h', evR (evF T E n) is e h = some (e', h') ∧ Q e' h'
def WO {α : Type} (o : Option (α × AH)) (K : α → AH → Prop) : Prop := match o with
  | some (v, h) => K v h
  | none => False
end
@[simp] theorem WO_some {α : Type} {v : α} {h : AH} {K : α → AH → Prop} : WO (some (v, h)) K ↔ K v h := Iff.rfl
@[simp] theorem WO_none {α : Type} {K : α → AH → Prop} : WO none K ↔ False := Iff.rfl
theorem WO_iff {α : Type} {o : Option (α × AH)} {K : α → AH → Prop} : WO o K ↔ ∃ v h, o = some (v, h) ∧ K v h := by
  cases o with
  | none => simp
  | some x =>
    obtain ⟨v, h⟩ := x
    exact ⟨fun hk => ⟨v, h, rfl, hk⟩, fun ⟨_, _, he, hk⟩ => by cases he; exact hk⟩

section
variable {T : Nat → Option FI} {E : Ext} (hE : EMono E) {e : Env} {h : AH} {Q : Env → AH → Prop} {R : X → Env → AH → Prop}
include hE

omit hE in
theorem WR_nil : WR T E [] e h Q ↔ Q e h := by
  constructor
  · rintro ⟨n, e', h', hev, hq⟩
    simp only [evR, Option.some.injEq, Prod.mk.injEq] at hev
    obtain ⟨rfl, rfl⟩ := hev
    exact hq
  · intro hq; exact ⟨0, e, h, rfl, hq⟩

omit hE in
/-- An operation that calls no one. -/
theorem WR_op {d : Option Nat} {op : AOp} {is : List I} (hi : op.isCall = false) : WR T E (⟨d, op, none⟩ :: is) e h Q ↔ WO (evOp noCall (env e) h op) fun v h' => WR T E is (put e d v) h' Q := by
  rw [WO_iff]
  constructor
  · rintro ⟨n, e', h', hev, hq⟩
    simp only [evR, evI] at hev
    rw [evOp_any hi (evF T E n) noCall] at hev
    cases ho : evOp noCall (env e) h op with
    | none => rw [ho] at hev; simp at hev
    | some y =>
      rw [ho] at hev
      obtain ⟨v, h1⟩ := y
      exact ⟨v, h1, rfl, n, e', h', hev, hq⟩
  · rintro ⟨v, h1, ho, n, e', h', hev, hq⟩
    refine ⟨n, e', h', ?_, hq⟩
    simp only [evR, evI]
    rw [evOp_any hi (evF T E n) noCall, ho]
    exact hev

theorem WR_call {d : Option Nat} {f : Nat} {xs : List Opd} {is : List I} : WR T E (⟨d, .call f xs, none⟩ :: is) e h Q ↔ Spec T E f (xs.map (env e)) h fun v h' => WR T E is (put e d v) h' Q := by
  constructor
  · rintro ⟨n, e', h', hev, hq⟩
    simp only [evR, evI, evOp] at hev
    cases ho : evF T E n f (xs.map (env e)) h with
    | none => rw [ho] at hev; simp at hev
    | some y =>
      rw [ho] at hev
      obtain ⟨v, h1⟩ := y
      exact ⟨n, v, h1, ho, n, e', h', hev, hq⟩
  · rintro ⟨n, v, h1, ho, n', e', h', hev, hq⟩
    refine ⟨max n n', e', h', ?_, hq⟩
    simp only [evR, evI, evOp]
    rw [evF_mono hE (Nat.le_max_left n n') _ _ _ _ ho]
    exact evR_mono (evF_mono hE (Nat.le_max_right n n')) hev

theorem WR_callv {d : Option Nat} {x : Opd} {xs : List Opd} {is : List I} {f : Nat} {cap : List AV} (hx : env e x = .fn f cap) : WR T E (⟨d, .callv x xs, none⟩ :: is) e h Q ↔ Spec T E f (xs.map (env e) ++ cap) h fun v h' => WR T E is (put e d v) h' Q := by
  constructor
  · rintro ⟨n, e', h', hev, hq⟩
    simp only [evR, evI, evOp, hx] at hev
    cases ho : evF T E n f (xs.map (env e) ++ cap) h with
    | none => rw [ho] at hev; simp at hev
    | some y =>
      rw [ho] at hev
      obtain ⟨v, h1⟩ := y
      exact ⟨n, v, h1, ho, n, e', h', hev, hq⟩
  · rintro ⟨n, v, h1, ho, n', e', h', hev, hq⟩
    refine ⟨max n n', e', h', ?_, hq⟩
    simp only [evR, evI, evOp, hx]
    rw [evF_mono hE (Nat.le_max_left n n') _ _ _ _ ho]
    exact evR_mono (evF_mono hE (Nat.le_max_right n n')) hev

omit hE in
/-- A guard that is heard, one that is not. -/
theorem WR_grd {d : Option Nat} {op : AOp} {is : List I} {t : Nat} {want b : Bool} (hb : e.get t = .bool b) : WR T E (⟨d, op, some (t, want)⟩ :: is) e h Q ↔ if b = want then WR T E (⟨d, op, none⟩ :: is) e h Q else WR T E is (put e d (.tup [])) h Q := by
  have key : ∀ n, evR (evF T E n) (⟨d, op, some (t, want)⟩ :: is) e h = if b = want then evR (evF T E n) (⟨d, op, none⟩ :: is) e h else evR (evF T E n) is (put e d (.tup [])) h := by
    intro n
    simp only [evR, evI, hb]
    by_cases hbw : b = want <;> simp [hbw]
  unfold WR
  simp only [key]
  by_cases hbw : b = want <;> simp [hbw]

omit hE in
/-- A guard on what was not done. -/
theorem WR_grd0 {d : Option Nat} {op : AOp} {is : List I} {t : Nat} {want : Bool} (hb : e.get t = .tup []) : WR T E (⟨d, op, some (t, want)⟩ :: is) e h Q ↔ WR T E is (put e d (.tup [])) h Q := by
  have key : ∀ n, evR (evF T E n) (⟨d, op, some (t, want)⟩ :: is) e h = evR (evF T E n) is (put e d (.tup [])) h := by
    intro n
    simp only [evR, evI, hb]
  unfold WR
  simp only [key]

omit hE in
theorem WC_reg {is : List I} : WC T E (.reg is) e h R ↔ WR T E is e h (R .normal) := by
  constructor
  · rintro ⟨n, x, e', h', hev, hq⟩
    simp only [evC, Option.map_eq_some_iff, Prod.mk.injEq] at hev
    obtain ⟨⟨e1, h1⟩, hev, rfl, rfl, rfl⟩ := hev
    exact ⟨n, e1, h1, hev, hq⟩
  · rintro ⟨n, e', h', hev, hq⟩
    exact ⟨n, .normal, e', h', by simp only [evC, hev]; rfl, hq⟩
omit hE in
theorem WC_skip : WC T E .skip e h R ↔ R .normal e h :=
  ⟨by rintro ⟨n, x, e', h', hev, hq⟩; simp only [evC, Option.some.injEq, Prod.mk.injEq] at hev; obtain ⟨rfl, rfl, rfl⟩ := hev; exact hq, fun hq => ⟨0, _, _, _, rfl, hq⟩⟩
omit hE in
theorem WC_ret : WC T E .ret e h R ↔ R .ret e h :=
  ⟨by rintro ⟨n, x, e', h', hev, hq⟩; simp only [evC, Option.some.injEq, Prod.mk.injEq] at hev; obtain ⟨rfl, rfl, rfl⟩ := hev; exact hq, fun hq => ⟨0, _, _, _, rfl, hq⟩⟩
omit hE in
theorem WC_exit {i : Nat} : WC T E (.exit i) e h R ↔ R (.exit i) e h :=
  ⟨by rintro ⟨n, x, e', h', hev, hq⟩; simp only [evC, Option.some.injEq, Prod.mk.injEq] at hev; obtain ⟨rfl, rfl, rfl⟩ := hev; exact hq, fun hq => ⟨0, _, _, _, rfl, hq⟩⟩
omit hE in
theorem WC_kl {ts : List Nat} {c : C} : WC T E (.kl ts c) e h R ↔ WC T E c (e.dels ts) h R := by
  unfold WC; simp only [evC]

/-- Behind a first piece: go on, or out. -/
def then' (K : Env → AH → Prop) (R : X → Env → AH → Prop) : X → Env → AH → Prop
  | .normal, e, h => K e h
  | x, e, h => R x e h
def inBlk (i : Nat) (R : X → Env → AH → Prop) : X → Env → AH → Prop
  | .exit j, e, h => if j = i then R .normal e h else R (.exit j) e h
  | x, e, h => R x e h
omit hE in
@[simp] theorem then_normal {K : Env → AH → Prop} {R : X → Env → AH → Prop} : then' K R .normal e h = K e h := rfl
omit hE in
@[simp] theorem then_exit {K : Env → AH → Prop} {R : X → Env → AH → Prop} {i : Nat} : then' K R (.exit i) e h = R (.exit i) e h := rfl
omit hE in
@[simp] theorem then_ret {K : Env → AH → Prop} {R : X → Env → AH → Prop} : then' K R .ret e h = R .ret e h := rfl
omit hE in
@[simp] theorem inBlk_normal {i : Nat} {R : X → Env → AH → Prop} : inBlk i R .normal e h = R .normal e h := rfl
omit hE in
@[simp] theorem inBlk_ret {i : Nat} {R : X → Env → AH → Prop} : inBlk i R .ret e h = R .ret e h := rfl
omit hE in
@[simp] theorem inBlk_exit {i j : Nat} {R : X → Env → AH → Prop} : inBlk i R (.exit j) e h = if j = i then R .normal e h else R (.exit j) e h := rfl

theorem WC_seq {a b : C} : WC T E (.seq a b) e h R ↔ WC T E a e h (then' (fun e' h' => WC T E b e' h' R) R) := by
  constructor
  · rintro ⟨n, x, e', h', hev, hq⟩
    simp only [evC] at hev
    cases ha : evC (evF T E n) n a e h with
    | none => rw [ha] at hev; simp at hev
    | some y =>
      rw [ha] at hev
      obtain ⟨x1, e1, h1⟩ := y
      refine ⟨n, x1, e1, h1, ha, ?_⟩
      cases x1 with
      | normal => exact ⟨n, x, e', h', hev, hq⟩
      | exit i => cases hev; exact hq
      | ret => cases hev; exact hq
  · rintro ⟨n, x1, e1, h1, ha, hq⟩
    cases x1 with
    | normal =>
      obtain ⟨n', x, e', h', hev, hq⟩ := hq
      refine ⟨max n n', x, e', h', ?_, hq⟩
      simp only [evC]
      rw [evC_mono (evF_mono hE (Nat.le_max_left n n')) (Nat.le_max_left n n') _ ha]
      exact evC_mono (evF_mono hE (Nat.le_max_right n n')) (Nat.le_max_right n n') _ hev
    | exit i => exact ⟨n, _, e1, h1, by simp only [evC, ha], hq⟩
    | ret => exact ⟨n, _, e1, h1, by simp only [evC, ha], hq⟩

omit hE in
theorem WC_cond {x : Opd} {a b : C} {t : Bool} (ht : env e x = .bool t) : WC T E (.cond x a b) e h R ↔ if t then WC T E a e h R else WC T E b e h R := by
  unfold WC
  simp only [evC, ht]
  cases t <;> simp

omit hE in
theorem WC_blk {i : Nat} {c : C} : WC T E (.blk i c) e h R ↔ WC T E c e h (inBlk i R) := by
  constructor
  · rintro ⟨n, x, e', h', hev, hq⟩
    simp only [evC] at hev
    cases ha : evC (evF T E n) n c e h with
    | none => rw [ha] at hev; simp at hev
    | some y =>
      rw [ha] at hev
      obtain ⟨x1, e1, h1⟩ := y
      refine ⟨n, x1, e1, h1, ha, ?_⟩
      cases x1 with
      | normal => cases hev; exact hq
      | exit j =>
        simp only at hev
        simp only [inBlk]
        split at hev
        · rename_i hj; rw [if_pos hj]; cases hev; exact hq
        · rename_i hj; rw [if_neg hj]; cases hev; exact hq
      | ret => cases hev; exact hq
  · rintro ⟨n, x1, e1, h1, ha, hq⟩
    cases x1 with
    | normal => exact ⟨n, _, e1, h1, by simp only [evC, ha], hq⟩
    | exit j =>
      simp only [inBlk] at hq
      by_cases hj : j = i
      · rw [if_pos hj] at hq
        exact ⟨n, _, e1, h1, by simp only [evC, ha, if_pos hj], hq⟩
      · rw [if_neg hj] at hq
        exact ⟨n, _, e1, h1, by simp only [evC, ha, if_neg hj], hq⟩
    | ret => exact ⟨n, _, e1, h1, by simp only [evC, ha], hq⟩

/-- A loop, one round unrolled. -/
theorem WC_loop {c : C} : WC T E (.loop c) e h R ↔ WC T E c e h (then' (fun e' h' => WC T E (.loop c) e' h' R) R) := by
  constructor
  · rintro ⟨n, x, e', h', hev, hq⟩
    simp only [evC] at hev
    cases n with
    | zero => simp [evLoop] at hev
    | succ n =>
      simp only [evLoop] at hev
      cases ha : evC (evF T E (n + 1)) (n + 1) c e h with
      | none => rw [ha] at hev; simp at hev
      | some y =>
        rw [ha] at hev
        obtain ⟨x1, e1, h1⟩ := y
        refine ⟨n + 1, x1, e1, h1, ha, ?_⟩
        cases x1 with
        | normal =>
          refine ⟨n + 1, x, e', h', ?_, hq⟩
          simp only [evC]
          exact evLoop_mono (fun _ _ _ hh => hh) (Nat.le_succ n) hev
        | exit i => cases hev; exact hq
        | ret => cases hev; exact hq
  · rintro ⟨n, x1, e1, h1, ha, hq⟩
    cases x1 with
    | normal =>
      obtain ⟨n', x, e', h', hev, hq⟩ := hq
      simp only [evC] at hev
      refine ⟨max n n' + 1, x, e', h', ?_, hq⟩
      simp only [evC, evLoop]
      rw [evC_mono (evF_mono hE (show n ≤ max n n' + 1 by omega)) (show n ≤ max n n' + 1 by omega) _ ha]
      exact evLoop_mono (fun _ _ _ hh => evC_mono (evF_mono hE (show n' ≤ max n n' + 1 by omega)) (show n' ≤ max n n' + 1 by omega) _ hh) (show n' ≤ max n n' by omega) hev
    | exit i =>
      refine ⟨n + 1, _, e1, h1, ?_, hq⟩
      simp only [evC, evLoop]
      rw [evC_mono (evF_mono hE (Nat.le_succ n)) (Nat.le_succ n) _ ha]
    | ret =>
      refine ⟨n + 1, _, e1, h1, ?_, hq⟩
      simp only [evC, evLoop]
      rw [evC_mono (evF_mono hE (Nat.le_succ n)) (Nat.le_succ n) _ ha]

omit hE in
/-- Into a function of the table. -/
theorem Spec_of {f : Nat} {xs : List AV} {post : AV → AH → Prop} {fi : FI} (hEf : E f = none) (hT : T f = some fi)
    (hw : WC T E fi.body (Env.init 0 xs) h fun x e' h' => (x = .normal ∨ x = .ret) ∧ ∃ r, resV e' h' fi.res = some r ∧ post r h') : Spec T E f xs h post := by
  obtain ⟨n, x, e', h', hev, hx, r, hr, hq⟩ := hw
  refine ⟨n + 1, r, h', ?_, hq⟩
  simp only [evF, hEf, hT, hev]
  rcases hx with rfl | rfl <;> simp [hr]
omit hE in
theorem Spec_ext {f : Nat} {xs : List AV} {post : AV → AH → Prop} {G : CF → List AV → AH → Option (AV × AH)} (hEf : E f = some G) {r : AV} {h' : AH} (n : Nat) (hG : G (evF T E n) xs h = some (r, h')) (hp : post r h') : Spec T E f xs h post :=
  ⟨n + 1, r, h', by simp only [evF, hEf, hG], hp⟩
omit hE in
theorem Spec.mono {f : Nat} {xs : List AV} {post post' : AV → AH → Prop} (hs : Spec T E f xs h post) (hp : ∀ r h', post r h' → post' r h') : Spec T E f xs h post' := by
  obtain ⟨n, r, h', hev, hq⟩ := hs
  exact ⟨n, r, h', hev, hp _ _ hq⟩
omit hE in
theorem WC.mono {c : C} {R' : X → Env → AH → Prop} (hs : WC T E c e h R) (hp : ∀ x e' h', R x e' h' → R' x e' h') : WC T E c e h R' := by
  obtain ⟨n, x, e', h', hev, hq⟩ := hs
  exact ⟨n, x, e', h', hev, hp _ _ _ hq⟩
end
end Go.Proofs.YtcflenomogpdbaaDoor.Ab

/- DEMONIC RUNS: pieces of code of the machine, and steps of an iterator over a map, whose order is not known. -/
namespace Go.Proofs.YtcflenomogpdbaaDoor.Ab
open Go

inductive D where
  | c (c : C)
  | nxt (it dst ok : Nat)
  | kl (ts : List Nat) (d : D)
  | seq (a b : D)
  | blk (id : Nat) (d : D)
  | loop (d : D)

abbrev RP := X → Env → AH → Prop
abbrev WCt := C → Env → AH → RP → Prop
def dRounds (W : Env → AH → RP → Prop) (R : RP) : Nat → Env → AH → Prop
  | 0, _, _ => False
  | k + 1, e, h => W e h (then' (fun e' h' => dRounds W R k e' h') R)
def dW (Wc : WCt) : D → Env → AH → RP → Prop
  | .c c, e, h, R => Wc c e h R
  | .nxt it dst ok, e, h, R => ∃ c cm seen es, e.get it = .iter c ∧ h[c]? = some (.mit cm es.length seen) ∧ h[cm]? = some (.map es) ∧
      (∀ (i : Nat) k v, es[i]? = some (k, v) → i ∉ seen → R .normal ((e.set dst (.tup [.bool true, k, v])).set ok (.bool true)) (h.set c (.mit cm es.length (seen ++ [i])))) ∧
      ((∀ i, i < es.length → i ∈ seen) → R .normal ((e.set dst (.tup [.bool false])).set ok (.bool false)) h)
  | .kl ts d, e, h, R => dW Wc d (e.dels ts) h R
  | .seq a b, e, h, R => dW Wc a e h (then' (fun e' h' => dW Wc b e' h' R) R)
  | .blk id d, e, h, R => dW Wc d e h (inBlk id R)
  | .loop d, e, h, R => ∃ n, dRounds (dW Wc d) R n e h

def WMono (Wc : WCt) : Prop := ∀ c e h (R R' : RP), (∀ x e' h', R x e' h' → R' x e' h') → Wc c e h R → Wc c e h R'
theorem then_mono {K K' : Env → AH → Prop} {R R' : RP} (hk : ∀ e h, K e h → K' e h) (hr : ∀ x e h, R x e h → R' x e h) : ∀ x e h, then' K R x e h → then' K' R' x e h := by
  intro x e h
  cases x <;> simp only [then'] <;> first | exact hk _ _ | exact hr _ _ _
theorem inBlk_mono {id : Nat} {R R' : RP} (hr : ∀ x e h, R x e h → R' x e h) : ∀ x e h, inBlk id R x e h → inBlk id R' x e h := by
  intro x e h
  cases x <;> simp only [inBlk] <;> first
    | exact hr _ _ _
    | (split <;> exact hr _ _ _)
theorem dW_mono {Wc : WCt} (hW : WMono Wc) : ∀ (d : D) (e : Env) (h : AH) (R R' : RP), (∀ x e' h', R x e' h' → R' x e' h') → dW Wc d e h R → dW Wc d e h R'
  | .c c, e, h, R, R', hr, hw => hW c e h R R' hr hw
  | .nxt it dst ok, e, h, R, R', hr, ⟨c, cm, seen, es, h1, h2, h3, h4, h5⟩ => ⟨c, cm, seen, es, h1, h2, h3, fun i k v a b => hr _ _ _ (h4 i k v a b), fun a => hr _ _ _ (h5 a)⟩
  | .kl ts d, e, h, R, R', hr, hw => dW_mono hW d _ h R R' hr hw
  | .seq a b, e, h, R, R', hr, hw => dW_mono hW a e h _ _ (then_mono (fun e' h' => dW_mono hW b e' h' R R' hr) hr) hw
  | .blk id d, e, h, R, R', hr, hw => dW_mono hW d e h _ _ (inBlk_mono hr) hw
  | .loop d, e, h, R, R', hr, ⟨n, hn⟩ => by
    refine ⟨n, ?_⟩
    induction n generalizing e h with
    | zero => exact hn
    | succ n ih => exact dW_mono hW d e h _ _ (then_mono (fun e' h' => ih e' h') hr) hn
theorem dW_imp {Wc Wc' : WCt} (hm : WMono Wc') (hi : ∀ c e h R, Wc c e h R → Wc' c e h R) : ∀ (d : D) (e : Env) (h : AH) (R : RP), dW Wc d e h R → dW Wc' d e h R
  | .c c, e, h, R, hw => hi c e h R hw
  | .nxt _ _ _, _, _, _, hw => hw
  | .kl ts d, e, h, R, hw => dW_imp hm hi d _ h R hw
  | .seq a b, e, h, R, hw => dW_mono hm a e h _ _ (then_mono (fun e' h' => dW_imp hm hi b e' h' R) fun _ _ _ x => x) (dW_imp hm hi a e h _ hw)
  | .blk id d, e, h, R, hw => dW_imp hm hi d e h _ hw
  | .loop d, e, h, R, ⟨n, hn⟩ => by
    refine ⟨n, ?_⟩
    induction n generalizing e h with
    | zero => exact hn
    | succ n ih => exact dW_mono hm d e h _ _ (then_mono (fun e' h' => ih e' h') fun _ _ _ x => x) (dW_imp hm hi d e h _ hn)

/-! ### Two answers of one run meet -/
def WBoth (Wc : WCt) : Prop := ∀ c e h (R R' : RP), Wc c e h R → Wc c e h R' → ∃ x e' h', R x e' h' ∧ R' x e' h'
theorem then_both {K K' : Env → AH → Prop} {R R' : RP} (hk : ∀ e h, K e h → K' e h → ∃ x e' h', R x e' h' ∧ R' x e' h') {x : X} {e : Env} {h : AH} (h1 : then' K R x e h) (h2 : then' K' R' x e h) : ∃ x e' h', R x e' h' ∧ R' x e' h' := by
  cases x <;> simp only [then'] at h1 h2 <;> first | exact hk _ _ h1 h2 | exact ⟨_, _, _, h1, h2⟩
theorem dW_both {Wc : WCt} (hW : WBoth Wc) : ∀ (d : D) (e : Env) (h : AH) (R R' : RP), dW Wc d e h R → dW Wc d e h R' → ∃ x e' h', R x e' h' ∧ R' x e' h'
  | .c c, e, h, R, R', h1, h2 => hW c e h R R' h1 h2
  | .nxt it dst ok, e, h, R, R', ⟨c, cm, seen, es, a1, a2, a3, a4, a5⟩, ⟨c', cm', seen', es', b1, b2, b3, b4, b5⟩ => by
    rw [a1] at b1; cases b1
    rw [a2] at b2
    simp only [Option.some.injEq, AO.mit.injEq] at b2
    obtain ⟨rfl, _, rfl⟩ := b2
    rw [a3] at b3; cases b3
    by_cases hall : ∀ i, i < es.length → i ∈ seen
    · exact ⟨_, _, _, a5 hall, b5 hall⟩
    · simp only [Classical.not_forall] at hall
      obtain ⟨i, hi, hs⟩ := hall
      have he : es[i]? = some (es[i].1, es[i].2) := List.getElem?_eq_getElem hi
      exact ⟨_, _, _, a4 i _ _ he hs, b4 i _ _ he hs⟩
  | .kl ts d, e, h, R, R', h1, h2 => dW_both hW d _ h R R' h1 h2
  | .seq a b, e, h, R, R', h1, h2 => by
    obtain ⟨x, e', h', k1, k2⟩ := dW_both hW a e h _ _ h1 h2
    exact then_both (fun e' h' => dW_both hW b e' h' R R') k1 k2
  | .blk id d, e, h, R, R', h1, h2 => by
    obtain ⟨x, e', h', k1, k2⟩ := dW_both hW d e h _ _ h1 h2
    cases x <;> simp only [inBlk] at k1 k2
    · exact ⟨_, _, _, k1, k2⟩
    · split at k1
      · rename_i hid; rw [if_pos hid] at k2; exact ⟨_, _, _, k1, k2⟩
      · rename_i hid; rw [if_neg hid] at k2; exact ⟨_, _, _, k1, k2⟩
    · exact ⟨_, _, _, k1, k2⟩
  | .loop d, e, h, R, R', ⟨n, h1⟩, ⟨n', h2⟩ => by
    induction n generalizing e h n' with
    | zero => exact h1.elim
    | succ n ih =>
      cases n' with
      | zero => exact h2.elim
      | succ n' =>
        obtain ⟨x, e', h', k1, k2⟩ := dW_both hW d e h _ _ h1 h2
        exact then_both (fun e' h' a b => ih e' h' a n' b) k1 k2

/-! ### One fuel is enough: a step has few ways on -/
def Wcf (cf : CF) : WCt := fun c e h R => ∃ n x e' h', evC cf n c e h = some (x, e', h') ∧ R x e' h'
theorem Wcf_mono (cf : CF) : WMono (Wcf cf) := fun _ _ _ _ _ hr ⟨n, x, e', h', h1, h2⟩ => ⟨n, x, e', h', h1, hr _ _ _ h2⟩
theorem Wcf_both (cf : CF) : WBoth (Wcf cf) := by
  rintro c e h R R' ⟨n, x, e', h', h1, h2⟩ ⟨n', y, f, g, k1, k2⟩
  have a := evC_mono (CF.le_refl cf) (Nat.le_max_left n n') c h1
  have b := evC_mono (CF.le_refl cf) (Nat.le_max_right n n') c k1
  rw [a] at b; cases b
  exact ⟨_, _, _, h2, k2⟩
theorem Wcf_le {cf cf' : CF} (hle : cf.le cf') (c : C) (e : Env) (h : AH) (R : RP) (hw : Wcf cf c e h R) : Wcf cf' c e h R := by
  obtain ⟨n, x, e', h', h1, h2⟩ := hw
  exact ⟨n, x, e', h', evC_mono hle (Nat.le_refl n) c h1, h2⟩
theorem up_fin {n : Nat} {Q : Nat → Nat → Prop} (hm : ∀ i N N', N ≤ N' → Q i N → Q i N') (h : ∀ i, i < n → ∃ N, Q i N) : ∃ N, ∀ i, i < n → Q i N := by
  induction n with
  | zero => exact ⟨0, fun i hi => by omega⟩
  | succ n ih =>
    obtain ⟨N, hN⟩ := ih fun i hi => h i (by omega)
    obtain ⟨M, hM⟩ := h n (by omega)
    refine ⟨max N M, fun i hi => ?_⟩
    by_cases e : i = n
    · subst e; exact hm _ _ _ (Nat.le_max_right N M) hM
    · exact hm _ _ _ (Nat.le_max_left N M) (hN i (by omega))
theorem dW_fuel {T : Nat → Option FI} {E : Ext} (hE : EMono E) : ∀ (d : D) (e : Env) (h : AH) (R : Nat → RP), (∀ N N', N ≤ N' → ∀ x e' h', R N x e' h' → R N' x e' h') → dW (WC T E) d e h (fun x e' h' => ∃ N, R N x e' h') → ∃ N, dW (Wcf (evF T E N)) d e h (R N) := by
  have le : ∀ {N N' : Nat}, N ≤ N' → (evF T E N).le (evF T E N') := fun hn => evF_mono hE hn
  have up : ∀ {N N' : Nat} (d : D) (e : Env) (h : AH) (R R' : RP), N ≤ N' → (∀ x e' h', R x e' h' → R' x e' h') → dW (Wcf (evF T E N)) d e h R → dW (Wcf (evF T E N')) d e h R' := fun d e h R R' hn hr hw => dW_mono (Wcf_mono _) d e h R R' hr (dW_imp (Wcf_mono _) (fun c e h R => Wcf_le (le hn) c e h R) d e h R hw)
  have tup : ∀ {K : Nat → Env → AH → Prop} {R : Nat → RP}, (∀ N N', N ≤ N' → ∀ e' h', K N e' h' → K N' e' h') → (∀ N N', N ≤ N' → ∀ x e' h', R N x e' h' → R N' x e' h') → ∀ N N', N ≤ N' → ∀ x e' h', then' (K N) (R N) x e' h' → then' (K N') (R N') x e' h' :=
    fun hk hr N N' hn => then_mono (hk N N' hn) (hr N N' hn)
  intro d
  induction d with
  | c c =>
    rintro e h R hm ⟨n, x, e', h', h1, N, h2⟩
    exact ⟨max n N, n, x, e', h', evC_mono (le (Nat.le_max_left n N)) (Nat.le_refl n) c h1, hm _ _ (Nat.le_max_right n N) _ _ _ h2⟩
  | nxt it dst ok =>
    rintro e h R hm ⟨c, cm, seen, es, h1, h2, h3, h4, h5⟩
    have a : ∃ N, ∀ i, i < es.length → ∀ k v, es[i]? = some (k, v) → i ∉ seen → R N .normal ((e.set dst (.tup [.bool true, k, v])).set ok (.bool true)) (h.set c (.mit cm es.length (seen ++ [i]))) := by
      refine up_fin (Q := fun i N => ∀ k v, es[i]? = some (k, v) → i ∉ seen → R N .normal ((e.set dst (.tup [.bool true, k, v])).set ok (.bool true)) (h.set c (.mit cm es.length (seen ++ [i])))) (fun i N N' hn hq k v a b => hm N N' hn _ _ _ (hq k v a b)) fun i hi => ?_
      by_cases hs : i ∈ seen
      · exact ⟨0, fun _ _ _ hns => absurd hs hns⟩
      · obtain ⟨N, hN⟩ := h4 i es[i].1 es[i].2 (List.getElem?_eq_getElem hi) hs
        refine ⟨N, fun k v hkv _ => ?_⟩
        have : es[i]? = some (es[i].1, es[i].2) := List.getElem?_eq_getElem hi
        rw [this] at hkv; cases hkv
        exact hN
    have b : ∃ N, (∀ i, i < es.length → i ∈ seen) → R N .normal ((e.set dst (.tup [.bool false])).set ok (.bool false)) h := by
      by_cases hall : ∀ i, i < es.length → i ∈ seen
      · obtain ⟨N, hN⟩ := h5 hall
        exact ⟨N, fun _ => hN⟩
      · exact ⟨0, fun x => absurd x hall⟩
    obtain ⟨N, hN⟩ := a
    obtain ⟨M, hM⟩ := b
    exact ⟨max N M, c, cm, seen, es, h1, h2, h3, fun i k v hk hs => hm _ _ (Nat.le_max_left N M) _ _ _ (hN i (List.getElem?_eq_some_iff.1 hk).1 k v hk hs), fun hall => hm _ _ (Nat.le_max_right N M) _ _ _ (hM hall)⟩
  | kl ts d ih => intro e h R hm hw; exact ih _ h R hm hw
  | seq a b iha ihb =>
    intro e h R hm hw
    refine iha e h (fun N => then' (fun e' h' => dW (Wcf (evF T E N)) b e' h' (R N)) (R N)) (tup (fun N N' hn e' h' => up b e' h' _ _ hn (hm N N' hn)) hm) ?_
    refine dW_mono (fun c e h R R' hr ⟨n, x, e', h', h1, h2⟩ => ⟨n, x, e', h', h1, hr _ _ _ h2⟩) a e h _ _ ?_ hw
    intro x e' h' hx
    cases x <;> simp only [then'] at hx ⊢
    · exact ihb e' h' R hm hx
    · exact hx
    · exact hx
  | blk id d ih =>
    intro e h R hm hw
    refine ih e h (fun N => inBlk id (R N)) (fun N N' hn => inBlk_mono (hm N N' hn)) ?_
    refine dW_mono (fun c e h R R' hr ⟨n, x, e', h', h1, h2⟩ => ⟨n, x, e', h', h1, hr _ _ _ h2⟩) d e h _ _ ?_ hw
    intro x e' h' hx
    cases x <;> simp only [inBlk] at hx ⊢
    · exact hx
    · split at hx
      · rename_i hid
        obtain ⟨N, hN⟩ := hx
        exact ⟨N, by rw [if_pos hid]; exact hN⟩
      · rename_i hid
        obtain ⟨N, hN⟩ := hx
        exact ⟨N, by rw [if_neg hid]; exact hN⟩
    · exact hx
  | loop d ih =>
    intro e h R hm ⟨n, hn⟩
    have main : ∀ n e h, dRounds (dW (WC T E) d) (fun x e' h' => ∃ N, R N x e' h') n e h → ∃ N, dRounds (dW (Wcf (evF T E N)) d) (R N) n e h := by
      intro n
      induction n with
      | zero => intro e h hw; exact hw.elim
      | succ n ihn =>
        intro e h hw
        have upr : ∀ N N', N ≤ N' → ∀ e' h', dRounds (dW (Wcf (evF T E N)) d) (R N) n e' h' → dRounds (dW (Wcf (evF T E N')) d) (R N') n e' h' := by
          intro N N' hn'
          clear ihn hw hn
          induction n with
          | zero => intro e' h' hx; exact hx
          | succ n ih2 => intro e' h' hx; exact up d e' h' _ _ hn' (then_mono (fun e2 h2 => ih2 e2 h2) (hm N N' hn')) hx
        refine ih e h (fun N => then' (fun e' h' => dRounds (dW (Wcf (evF T E N)) d) (R N) n e' h') (R N)) (tup upr hm) ?_
        refine dW_mono (fun c e h R R' hr ⟨n, x, e', h', h1, h2⟩ => ⟨n, x, e', h', h1, hr _ _ _ h2⟩) d e h _ _ ?_ hw
        intro x e' h' hx
        cases x <;> simp only [then'] at hx ⊢
        · exact ihn e' h' hx
        · exact hx
        · exact hx
    obtain ⟨N, hN⟩ := main n e h hn
    exact ⟨N, n, hN⟩
end Go.Proofs.YtcflenomogpdbaaDoor.Ab

/- CONTRACTS outside the table of bodies: functions of strings, by what they answer. -/
namespace Go.Proofs.YtcflenomogpdbaaDoor.Ab
open Go

/-- Functions that turn nothing: of strings and numbers, or of what a slice holds. -/
def pureX (G : List AV → AH → Option AV) : CF → List AV → AH → Option (AV × AH) := fun _ xs h => (G xs h).map (·, h)
def low (s : List UInt8) : Bool := s.all fun b => decide (b.toNat < 128)
def xTrim : List AV → Option AV
  | [.str s, .str c] => if s.length ≤ 4294967280 ∧ c.length ≤ 4294967280 ∧ low c = true then some (.str (Go.Lib.trimS s c)) else none
  | _ => none
def xIndexByte : List AV → Option AV
  | [.str s, .int .u8 c] => some (.int .i64 (Go.Lib.indexByte s c.toNat.toUInt8))
  | _ => none
def xIndex : List AV → Option AV
  | [.str s, .str [c]] => some (.int .i64 (Go.Lib.indexByte s c))
  | _ => none
def xContains : List AV → Option AV
  | [.str s, .str [c]] => some (.bool (decide (0 ≤ Go.Lib.indexByte s c)))
  | _ => none
def xCount : List AV → Option AV
  | [.str s, .str [c]] => some (.int .i64 (Go.Lib.countByte s c))
  | _ => none

def strsOf : List AV → Option (List (List UInt8))
  | [] => some []
  | .str s :: l => (strsOf l).map (s :: ·)
  | _ :: _ => none
def xJoin : List AV → AH → Option AV
  | [.slice c k off len e, .str sep], h => if e = 1 then match rdRow h c k off len with
    | some cs => match strsOf cs with
      | some xs => if (Go.Lib.join xs sep).length ≤ 140737488355328 ∧ len ≤ 140737488355328 then some (.str (Go.Lib.join xs sep)) else none
      | none => none
    | none => none
    else none
  | _, _ => none
def xRepeat : List AV → Option AV
  | [.str s, .int .i64 n] => if 0 ≤ n ∧ n ≤ 9223372036854775807 ∧ s.length * n.toNat ≤ 140737488355328 then some (.str (Go.Lib.repeatL s n.toNat)) else none
  | _ => none

/-- What stands ahead of i and from j on, the rest laid to zero (elements of three numbers). -/
def xDelete3 : List AV → AH → Option (AV × AH)
  | [.slice c k off n e, .int .i64 i, .int .i64 j], h => if e = 3 ∧ 0 ≤ i ∧ i < j ∧ j ≤ (n : Int) ∧ n ≤ 1099511627776 then match rdRow h c k (off + j.toNat * 3) ((n - j.toNat) * 3) with
    | some cs => match wrRow h c k (off + i.toNat * 3) cs with
      | some h1 => match wrRow h1 c k (off + (i.toNat + (n - j.toNat)) * 3) (List.replicate ((j.toNat - i.toNat) * 3) (.int .i64 0)) with
        | some h2 => some (.slice c k off (n - (j.toNat - i.toNat)) 3, h2)
        | none => none
      | none => none
    | none => none
    else none
  | _, _ => none

/-- A slice of texts in order. -/
def xSortS : List AV → AH → Option (AV × AH)
  | [.nilS], h => some (.tup [], h)
  | [.empS], h => some (.tup [], h)
  | [.slice c k off n e], h => if e = 1 ∧ 1 ≤ n ∧ n ≤ 1099511627776 then match rdRow h c k off n with
    | some cs => match strsOf cs with
      | some ss => (wrRow h c k off ((ss.mergeSort fun x y => decide (x ≤ y)).map AV.str)).map fun h' => (.tup [], h')
      | none => none
    | none => none
    else none
  | _, _ => none

/-! ### Texts gathered from a map, whose order is not known -/
/-- impl.someReached: the code, its steps over the map left open. -/
def dSome3 : D := .kl [8, 21, 22, 23] (.c (.cond (.t 24) (.reg [⟨some 25, .mov (.t 6), none⟩, ⟨some 26, .mov (.t 7), none⟩, ⟨some 27, .lit 1 1 [.str []] [(0, 1, .t 26)], none⟩, ⟨some 28, .app 1 (.t 25) (.t 27), none⟩, ⟨some 6, .mov (.t 28), none⟩]) .skip))
def dSome2 : D := .seq (.c (.reg [⟨some 21, .mov (.t 1), none⟩, ⟨some 22, .mov (.t 7), none⟩, ⟨some 23, .mov (.t 8), none⟩, ⟨some 24, .callv (.t 21) [.t 22, .t 23], none⟩])) dSome3
def dSome1 : D := .seq (.c (.reg [⟨some 18, .ent (.t 15), none⟩, ⟨some 19, .prj 0 (.t 18), none⟩, ⟨some 20, .prj 1 (.t 18), none⟩, ⟨some 7, .mov (.t 19), none⟩, ⟨some 8, .mov (.t 20), none⟩])) (.kl [18, 19, 20] dSome2)
def dSomeL : D := .kl [7, 8, 16, 17, 18, 19, 20, 21, 22, 23, 24, 25, 26, 27, 28] (.seq (.nxt 15 16 17) (.kl [16] (.seq (.c (.cond (.t 17) .skip (.kl [1, 15, 17] (.exit 0)))) (.kl [17] (.blk 1 dSome1)))))
def dSomeT : D := .seq (.c (.reg [⟨some 29, .mov (.t 6), none⟩, ⟨some 30, .call 275 [.t 29], none⟩])) (.kl [29, 30] (.c (.seq (.reg [⟨some 31, .mov (.t 6), none⟩, ⟨some 4, .mov (.t 31), none⟩, ⟨some 5, .mov (.c (.bool true)), none⟩]) .ret)))
def dSomeM : D := .seq (.seq (.c (.reg [⟨some 13, .mov (.t 0), none⟩, ⟨some 14, .call 273 [.t 13], none⟩, ⟨some 15, .rngM (.t 14), none⟩])) (.kl [0, 13, 14] (.blk 0 (.loop dSomeL)))) dSomeT
def dSome : D :=
  .seq (.c (.reg [⟨some 4, .mov (.c .nilS), none⟩, ⟨some 5, .mov (.c (.bool false)), none⟩]))
  (.seq (.c (.seq (.reg [⟨some 9, .mov (.t 0), none⟩, ⟨some 10, .call 56 [.t 9], none⟩, ⟨some 11, .un .not (.t 10), none⟩]) (.kl [9, 10] (.cond (.t 11) (.seq (.reg [⟨some 4, .mov (.c .nilS), none⟩, ⟨some 5, .mov (.c (.bool false)), none⟩]) .ret) .skip))))
  (.kl [4, 5, 11] (.seq (.c (.reg [⟨some 12, .lit0, none⟩, ⟨some 6, .mov (.t 12), none⟩])) (.kl [12] dSomeM))))
/-- What comes of it: nil, or nothing, or a slice of one's own; a yes or no. -/
def FinR (h : AH) (q : Nat × Bool × List (List UInt8)) : RP := fun x e' h' => x = .ret ∧ e'.get 5 = .bool q.2.1 ∧ (∀ i, i < h.length → h'[i]? = h[i]?) ∧
  ((q.1 = 0 ∧ q.2.2 = [] ∧ e'.get 4 = .nilS) ∨ (q.1 = 1 ∧ q.2.2 = [] ∧ e'.get 4 = .empS) ∨
   (q.1 = 2 ∧ ∃ r k off n cells fl, e'.get 4 = .slice r k off n 1 ∧ h.length ≤ r ∧ h'[r]? = some (.row cells k fl false) ∧ fl ≤ k ∧ n = q.2.2.length ∧ 1 ≤ n ∧ off + n * 1 = cells.length ∧ cells.drop off = q.2.2.map AV.str))
theorem strs_inj : ∀ {a b : List (List UInt8)}, a.map AV.str = b.map AV.str → a = b
  | [], [], _ => rfl
  | [], _ :: _, h => by simp at h
  | _ :: _, [], h => by simp at h
  | x :: a, y :: b, h => by
    simp only [List.map_cons, List.cons.injEq, AV.str.injEq] at h
    rw [h.1, strs_inj h.2]
theorem FinR.uniq {h h' : AH} {q q' : Nat × Bool × List (List UInt8)} {x : X} {e' : Env} (a : FinR h q x e' h') (b : FinR h q' x e' h') : q = q' := by
  obtain ⟨q1, q2, q3⟩ := q
  obtain ⟨p1, p2, p3⟩ := q'
  obtain ⟨_, a1, _, a2⟩ := a
  obtain ⟨_, b1, _, b2⟩ := b
  simp only at a1 b1 a2 b2
  rw [a1] at b1
  simp only [AV.bool.injEq] at b1
  subst b1
  rcases a2 with ⟨rfl, rfl, a3⟩ | ⟨rfl, rfl, a3⟩ | ⟨rfl, r, k, off, n, cells, fl, a3, a4, a5, a6, a7, a8, a9, a10⟩ <;> rcases b2 with ⟨rfl, rfl, b3⟩ | ⟨rfl, rfl, b3⟩ | ⟨rfl, r', k', off', n', cells', fl', b3, b4, b5, b6, b7, b8, b9, b10⟩ <;> rw [a3] at b3 <;> first
    | rfl
    | (cases b3; done)
    | (simp only [AV.slice.injEq] at b3
       obtain ⟨rfl, rfl, rfl, rfl, _⟩ := b3
       rw [a5] at b5
       simp only [Option.some.injEq, AO.row.injEq] at b5
       obtain ⟨rfl, _⟩ := b5
       rw [a10] at b10
       rw [strs_inj b10])
def ansR (h : AH) (q : Nat × Bool × List (List UInt8)) : AV × AH := match q.1 with
  | 0 => (.tup [.nilS, .bool q.2.1], h)
  | 1 => (.tup [.empS, .bool q.2.1], h)
  | _ => (.tup [.slice h.length 0 0 q.2.2.length 1, .bool q.2.1], h ++ [.row (q.2.2.map AV.str) 0 0 false])
open Classical in
noncomputable def xGather (d : D) : CF → List AV → AH → Option (AV × AH) := fun cf xs h =>
  if H : ∃ q, dW (Wcf cf) d (Env.init 0 xs) h (FinR h q) then some (ansR h (Classical.choose H)) else none
theorem xGather_at {d : D} {cf : CF} {xs : List AV} {h : AH} {q : Nat × Bool × List (List UInt8)} (hq : dW (Wcf cf) d (Env.init 0 xs) h (FinR h q)) : xGather d cf xs h = some (ansR h q) := by
  have H : ∃ q, dW (Wcf cf) d (Env.init 0 xs) h (FinR h q) := ⟨q, hq⟩
  unfold xGather
  rw [dif_pos H]
  obtain ⟨x, e', h', a, b⟩ := dW_both (Wcf_both cf) d _ _ _ _ (Classical.choose_spec H) hq
  rw [FinR.uniq a b]
theorem xGather_some {d : D} {cf : CF} {xs : List AV} {h : AH} {r : AV × AH} (hr : xGather d cf xs h = some r) : ∃ q, dW (Wcf cf) d (Env.init 0 xs) h (FinR h q) ∧ r = ansR h q := by
  unfold xGather at hr
  split at hr
  · rename_i H
    cases hr
    exact ⟨_, Classical.choose_spec H, rfl⟩
  · cases hr
theorem xGather_mono {d : D} {cf cf' : CF} (hle : cf.le cf') {xs : List AV} {h : AH} {r : AV × AH} (hr : xGather d cf xs h = some r) : xGather d cf' xs h = some r := by
  obtain ⟨q, hq, rfl⟩ := xGather_some hr
  exact xGather_at (dW_imp (Wcf_mono _) (fun c e h R => Wcf_le hle c e h R) d _ _ _ hq)
noncomputable def xSome : CF → List AV → AH → Option (AV × AH) := xGather dSome

def xtab : List (Nat × (List AV → AH → Option AV)) := [(111, fun xs _ => xTrim xs), (190, fun xs _ => xIndexByte xs), (194, fun xs _ => xIndex xs), (126, fun xs _ => xContains xs), (131, fun xs _ => xCount xs), (123, fun xs _ => xRepeat xs)]
def ytab : List (Nat × (List AV → AH → Option (AV × AH))) := [(275, xSortS)]
noncomputable def ztab : List (Nat × (CF → List AV → AH → Option (AV × AH))) := []
noncomputable def E : Ext := fun f => match xtab.find? fun x => x.1 == f with
  | some x => some (pureX x.2)
  | none => match ytab.find? fun x => x.1 == f with
    | some x => some fun _ xs h => x.2 xs h
    | none => (ztab.find? fun x => x.1 == f).map fun x => x.2
theorem ztab_mono : ∀ x ∈ ztab, ∀ cf cf' : CF, cf.le cf' → ∀ xs h r, x.2 cf xs h = some r → x.2 cf' xs h = some r := by
  intro x hx
  simp only [ztab, List.mem_cons, List.not_mem_nil, or_false] at hx
  all_goals cases hx
theorem hE : EMono E := by
  intro f G h cf cf' _ xs hh r hr
  unfold E at h
  split at h
  · cases h; exact hr
  · split at h
    · cases h; exact hr
    · simp only [Option.map_eq_some_iff] at h
      obtain ⟨x, hx, rfl⟩ := h
      exact ztab_mono x (List.mem_of_find?_eq_some hx) cf cf' ‹_› xs hh r hr
end Go.Proofs.YtcflenomogpdbaaDoor.Ab
