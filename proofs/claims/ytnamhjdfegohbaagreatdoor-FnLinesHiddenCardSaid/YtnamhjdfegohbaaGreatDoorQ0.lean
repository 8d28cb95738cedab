/- Part 1 of the proof of a law of the given program: the rules that it leans on, and what the functions that it reaches answer; the conditions stand with each theorem. -/
import Derived.Tactics
import Derived.WalkKit
set_option linter.unusedSimpArgs false
set_option linter.unusedVariables false
/- THE ABSTRACT MACHINE: values, heap, compact instructions, evaluator. No program in sight. -/
namespace Go.Proofs.YtnamhjdfegohbaaGreatDoor.Ab
open Go

/-! ### Values and heap -/
inductive AV where
  | int (k : IntKind) (n : Int)
  | bool (b : Bool)
  | str (s : List UInt8)
  | nilS
  | empS
  | slice (c k off len esz : Nat)
  | nilP
  | ptr (c k off n : Nat)
  | nilM
  | map (c : Nat)
  | iter (c : Nat)
  | fn (f : Nat) (cap : List AV)
  | nilF
  | agg (xs : List AV)
  | tup (xs : List AV)
  | nilI
  | ifc
  | undef
  deriving Inhabited

inductive AO where
  | row (cs : List AV) (ver floor : Nat) (ro : Bool)
  | map (es : List (AV × AV))
  | iter (s : List UInt8) (pos : Nat)
  | mit (cm since : Nat) (seen : List Nat)
  deriving Inhabited

abbrev AH := List AO

def AV.cells : AV → List AV
  | .agg xs => xs
  | v => [v]

/-- A value that fills one cell. -/
def AV.sc : AV → Bool
  | .agg _ | .tup _ | .undef => false
  | _ => true

def mkv (agg : Bool) (xs : List AV) : Option AV :=
  if agg then some (.agg xs) else match xs with
    | [v] => some v
    | _ => none

/-! ### Environments: slots that are known -/
abbrev Env := List (Nat × AV)
def Env.get : Env → Nat → AV
  | [], _ => .undef
  | (k, v) :: e, t => if k = t then v else Env.get e t
def Env.set : Env → Nat → AV → Env
  | [], t, v => [(t, v)]
  | (k, u) :: e, t, v => if k = t then (t, v) :: e else if t < k then (t, v) :: (k, u) :: e else (k, u) :: Env.set e t v
def Env.del : Env → Nat → Env
  | [], _ => []
  | (k, u) :: e, t => if k = t then Env.del e t else (k, u) :: Env.del e t
def Env.dels (e : Env) : List Nat → Env
  | [] => e
  | t :: ts => Env.dels (e.del t) ts
def Env.init : Nat → List AV → Env
  | _, [] => []
  | i, v :: vs => (i, v) :: Env.init (i + 1) vs

/-! ### Instructions -/
inductive Opd where
  | t (n : Nat)
  | c (v : AV)

inductive AOp where
  | mov (x : Opd)
  | pick (c a b : Opd)
  | bin (op : BinOp) (x y : Opd)
  | beq (neg : Bool) (x y : Opd)
  | aeq (neg : Bool) (kds : List Nat) (x y : Opd)
  | niq (neg : Bool) (kd : Nat) (x : Opd)
  | un (op : UnOp) (x : Opd)
  | conv (k : IntKind) (x : Opd)
  | toB (x : Opd)
  | ofB (x : Opd)
  | ofR (x : Opd)
  | new (zero : List AV)
  | box (x : Opd)
  | build (zero : List AV) (parts : List (Nat × Nat × Opd))
  | lit (esz len : Nat) (zero : List AV) (parts : List (Nat × Nat × Opd))
  | lit0
  | load (agg : Bool) (n : Nat) (a : Opd)
  | store (n : Nat) (a x : Opd)
  | nck (x : Opd)
  | faddr (off n : Nat) (a : Opd)
  | fld (agg : Bool) (off n : Nat) (x : Opd)
  | iaddr (esz : Nat) (x i : Opd)
  | iaddrA (len esz : Nat) (a i : Opd)
  | idx (agg : Bool) (len esz : Nat) (x i : Opd)
  | idxS (x i : Opd)
  | sub (esz : Nat) (x : Opd) (lo hi : Option Opd)
  | sub0 (x : Opd) (hi mx : Opd)
  | subS (x : Opd) (lo hi : Option Opd)
  | subA (len esz : Nat) (a : Opd) (lo hi : Option Opd)
  | make (esz : Nat) (zero : List AV) (len cap : Opd)
  | mkmap
  | mkfn (f : Nat) (caps : List Opd)
  | look (kd : Nat) (zero : AV) (ok : Bool) (m k : Opd)
  | mset (kd : Nat) (m k v : Opd)
  | mlen (m : Opd)
  | rng (x : Opd)
  | rngM (x : Opd)
  | ent (it : Opd)
  | nxt (it : Opd)
  | prj (i : Nat) (x : Opd)
  | call (f : Nat) (xs : List Opd)
  | callv (x : Opd) (xs : List Opd)
  | lenS (x : Opd)
  | lenV (x : Opd)
  | app (esz : Nat) (s x : Opd)
  | appS (s x : Opd)
  | copy (esz : Nat) (d s : Opd)
  | clr (zero : List AV) (x : Opd)
  | mmx (max : Bool) (x y : Opd)

structure I where
  dst : Option Nat
  op : AOp
  grd : Option (Nat × Bool) := none

inductive C where
  | skip
  | reg (is : List I)
  | drw (is : List I) (ps : List (Nat × Nat))
  | kl (ts : List Nat) (c : C)
  | seq (a b : C)
  | cond (x : Opd) (a b : C)
  | blk (id : Nat) (c : C)
  | loop (c : C)
  | exit (id : Nat)
  | ret
  | bad

inductive Res where
  | tmp (t : Nat)
  | cell (agg : Bool) (n : Nat) (t : Nat)

structure FI where
  body : C
  res : List Res

/-! ### Memory -/
def room : Nat := 1099511627776

def rdRow (h : AH) (c k off n : Nat) : Option (List AV) :=
  match h[c]? with
  | some (.row cs ver fl _) => if fl ≤ k ∧ k ≤ ver ∧ off + n ≤ cs.length then some ((cs.drop off).take n) else none
  | _ => none

def splice {α : Type} (cs : List α) (off : Nat) (vs : List α) : List α := cs.take off ++ vs ++ cs.drop (off + vs.length)

def wrRow (h : AH) (c k off : Nat) (vs : List AV) : Option AH :=
  match h[c]? with
  | some (.row cs ver fl false) => if k = ver ∧ fl ≤ ver ∧ off + vs.length ≤ cs.length ∧ vs.all AV.sc = true then some (h.set c (.row (splice cs off vs) ver ver false)) else none
  | _ => none

def newRow (h : AH) (cs : List AV) : Option (Nat × AH) := if cs.all AV.sc = true then some (h.length, h ++ [.row cs 0 0 false]) else none

/-- What a slice or a string holds, cell by cell. -/
def cellsOf (h : AH) : AV → Option (List AV)
  | .nilS | .empS => some []
  | .slice c k off len esz => rdRow h c k off (len * esz)
  | .str s => some (s.map fun b => .int .u8 b.toNat)
  | _ => none

/-- append: of n elements, the cells vs; where the slice ends as its row does. -/
def apRow1 (h : AH) (esz : Nat) (s : AV) (n : Nat) (vs : List AV) : Option (AV × AH) :=
  match s with
  | .nilS => if n = 0 then some (.nilS, h) else if n ≤ room then (newRow h vs).map fun (c, h') => (.slice c 0 0 n esz, h') else none
  | .empS => if n = 0 then some (.empS, h) else if n ≤ room then (newRow h vs).map fun (c, h') => (.slice c 0 0 n esz, h') else none
  | .slice c k off len e =>
    match h[c]? with
    | some (.row cs ver fl false) =>
      if e = esz ∧ k = ver ∧ off + len * esz = cs.length ∧ fl ≤ ver ∧ vs.all AV.sc = true ∧ len + n ≤ room then
        some (.slice c (ver + 1) off (len + n) esz, h.set c (.row (cs ++ vs) (ver + 1) fl false)) else none
    | _ => none
  | _ => none

/-- append: of n elements, the cells vs; what lies behind the slice is given up. -/
def apRow (h : AH) (esz : Nat) (s : AV) (n : Nat) (vs : List AV) : Option (AV × AH) :=
  match s with
  | .slice c k off len e =>
    match h[c]? with
    | some (.row cs ver fl false) =>
      if e = esz ∧ k = ver ∧ off + len * esz = cs.length ∧ fl ≤ ver ∧ vs.all AV.sc = true ∧ len + n ≤ room then
        some (.slice c (ver + 1) off (len + n) esz, h.set c (.row (cs ++ vs) (ver + 1) fl false))
      else if e = esz ∧ k = ver ∧ off + len * esz ≤ cs.length ∧ fl ≤ ver ∧ vs.all AV.sc = true ∧ len + n ≤ room then
        some (.slice c (ver + 2) off (len + n) esz, h.set c (.row (cs.take (off + len * esz) ++ vs) (ver + 2) (ver + 1) false))
      else none
    | _ => none
  | _ => apRow1 h esz s n vs

/-! ### Keys of maps -/
def keyEq : AV → AV → Option Bool
  | .int k a, .int k' b => if k = k' then some (a == b) else none
  | .str a, .str b => some (a == b)
  | .bool a, .bool b => some (a == b)
  | _, _ => none
def keyIs : Nat → AV → Bool
  | 0, .int _ _ | 1, .str _ | 2, .bool _ => true
  | _, _ => false
def seqL : List Nat → List AV → List AV → Option Bool
  | [], [], [] => some true
  | kd :: kds, x :: xs, y :: ys => match keyIs kd x, keyEq x y, seqL kds xs ys with
    | true, some a, some b => some (a && b)
    | _, _, _ => none
  | _, _, _ => none

def mfind (k : AV) : List (AV × AV) → Option (Option AV)
  | [] => some none
  | (a, v) :: es => match keyEq k a with
    | some true => some (some v)
    | some false => mfind k es
    | none => none
def mput (k v : AV) : List (AV × AV) → List (AV × AV)
  | [] => [(k, v)]
  | (a, u) :: es => match keyEq k a with
    | some true => (k, v) :: es
    | _ => (a, u) :: mput k v es

/-! ### Operations -/
def two63 : Nat := 9223372036854775807
def binI (op : BinOp) (k : IntKind) (x y : Int) : Option AV :=
  match op with
  | .add => some (.int k (k.wrap (x + y)))
  | .sub => some (.int k (k.wrap (x - y)))
  | .mul => some (.int k (k.wrap (x * y)))
  | .quo => if y = 0 then none else some (.int k (k.wrap (x.tdiv y)))
  | .rem => if y = 0 then none else some (.int k (x.tmod y))
  | .and | .or | .xor | .andNot => some (.int k (bits op k x y))
  | .eql => some (.bool (x == y))
  | .neq => some (.bool (x != y))
  | .lss => some (.bool (decide (x < y)))
  | .leq => some (.bool (decide (x ≤ y)))
  | .gtr => some (.bool (decide (x > y)))
  | .geq => some (.bool (decide (x ≥ y)))
  | .shl | .shr => none
def binSh (op : BinOp) (k : IntKind) (x y : Int) : Option AV :=
  if y < 0 then none else match op with
  | .shl => some (.int k (k.wrap (x * 2 ^ (min y.toNat k.bits))))
  | .shr => some (.int k (x.fdiv (2 ^ (min y.toNat k.bits))))
  | _ => none
def binS (op : BinOp) (x y : List UInt8) : Option AV :=
  match op with
  | .add => if x.length + y.length ≤ two63 then some (.str (x ++ y)) else none
  | .eql => some (.bool (x == y))
  | .neq => some (.bool (!(x == y)))
  | .lss => some (.bool (Op.bytesLess x y))
  | .leq => some (.bool (Op.bytesLess x y || x == y))
  | .gtr => some (.bool (!(Op.bytesLess x y || x == y)))
  | .geq => some (.bool (!(Op.bytesLess x y)))
  | _ => none
def evBin (op : BinOp) : AV → AV → Option AV
  | .int k x, .int k' y => match op with
    | .shl | .shr => binSh op k x y
    | _ => if k = k' then binI op k x y else none
  | .str x, .str y => binS op x y
  | _, _ => none

def evNil : Nat → AV → Option Bool
  | 0, .nilS | 1, .nilP | 2, .nilM | 3, .nilF | 4, .nilI => some true
  | 0, .empS | 0, .slice .. | 1, .ptr .. | 2, .map _ | 3, .fn .. | 4, .ifc => some false
  | _, _ => none

def byte1 : AV → Option UInt8
  | .int .u8 n => some (UInt8.ofNat n.toNat)
  | _ => none
def bytesL : List AV → Option (List UInt8)
  | [] => some []
  | v :: vs => match byte1 v, bytesL vs with
    | some b, some bs => some (b :: bs)
    | _, _ => none

def fillP (cells : List AV) : List (Nat × Nat × AV) → Option (List AV)
  | [] => some cells
  | (off, n, v) :: rest => if v.cells.length = n ∧ off + n ≤ cells.length ∧ v.cells.all AV.sc = true then fillP (splice cells off v.cells) rest else none

def dec (s : List UInt8) (pos : Nat) : Int × Nat := let (c, w) := Utf8.decode ⟨s.toArray⟩ pos; (c, w)

def bnd (o : Option AV) (d top : Nat) : Option Nat :=
  match o with
  | none => some d
  | some (.int _ i) => if 0 ≤ i ∧ i ≤ top then some i.toNat else none
  | _ => none

abbrev CF := Nat → List AV → AH → Option (AV × AH)

def optv (ρ : Opd → AV) : Option Opd → Option AV
  | none => none
  | some x => some (ρ x)

def evOp (cf : CF) (ρ : Opd → AV) (h : AH) : AOp → Option (AV × AH)
  | .mov x => some (ρ x, h)
  | .pick c a b => match ρ c with
    | .bool t => some (if t then ρ a else ρ b, h)
    | _ => none
  | .bin op x y => (evBin op (ρ x) (ρ y)).map (·, h)
  | .beq neg x y => match ρ x, ρ y with
    | .bool a, .bool b => some (.bool (if neg then !(a == b) else a == b), h)
    | _, _ => none
  | .aeq neg kds x y => match ρ x, ρ y with
    | .agg xs, .agg ys => (seqL kds xs ys).map fun b => (.bool (if neg then !b else b), h)
    | _, _ => none
  | .niq neg kd x => (evNil kd (ρ x)).map fun b => (.bool (if neg then !b else b), h)
  | .un op x => match op, ρ x with
    | .neg, .int k n => some (.int k (k.wrap (0 - n)), h)
    | .not, .bool b => some (.bool (!b), h)
    | _, _ => none
  | .conv k x => match ρ x with
    | .int _ n => some (.int k (k.wrap n), h)
    | _ => none
  | .toB x => match ρ x with
    | .str s => if s.length ≤ room then (newRow h (s.map fun b => .int .u8 b.toNat)).map fun (c, h') => (.slice c 0 0 s.length 1, h') else none
    | _ => none
  | .ofB x => match ρ x with
    | .nilS | .empS => some (.str [], h)
    | .slice c k off len e => if e = 1 then match rdRow h c k off len with
        | some cs => (bytesL cs).map fun s => (.str s, h)
        | none => none
      else none
    | _ => none
  | .ofR x => match ρ x with
    | .int _ n => some (.str (Utf8.encode n).data.toList, h)
    | _ => none
  | .new zero => (newRow h zero).map fun (c, h') => (.ptr c 0 0 zero.length, h')
  | .box x => match ρ x with
    | .undef | .tup _ => none
    | v => (newRow h v.cells).map fun (c, h') => (.ptr c 0 0 v.cells.length, h')
  | .build zero parts => (fillP zero (parts.map fun (o, n, x) => (o, n, ρ x))).map fun cs => (.agg cs, h)
  | .lit esz len zero parts => match fillP zero (parts.map fun (o, n, x) => (o, n, ρ x)) with
    | some cs => (newRow h cs).map fun (c, h') => (.slice c 0 0 len esz, h')
    | none => none
  | .lit0 => some (.empS, h)
  | .load agg n a => match ρ a with
    | .ptr c k off m => if n ≤ m then match rdRow h c k off n with
        | some cs => (mkv agg cs).map (·, h)
        | none => none
      else none
    | _ => none
  | .store n a x => match ρ a with
    | .ptr c k off m => if n ≤ m ∧ (ρ x).cells.length = n then (wrRow h c k off (ρ x).cells).map fun h' => (.undef, h') else none
    | _ => none
  | .nck x => match ρ x with
    | .ptr c k off n => some (.ptr c k off n, h)
    | .fn f cs => some (.fn f cs, h)
    | _ => none
  | .faddr off n a => match ρ a with
    | .ptr c k o m => if off + n ≤ m then some (.ptr c k (o + off) n, h) else none
    | _ => none
  | .fld agg off n x => match ρ x with
    | .agg xs => if off + n ≤ xs.length then (mkv agg ((xs.drop off).take n)).map (·, h) else none
    | _ => none
  | .iaddr esz x i => match ρ x, ρ i with
    | .slice c k off len e, .int _ j => if e = esz ∧ 0 ≤ j ∧ j < len then some (.ptr c k (off + j.toNat * esz) esz, h) else none
    | _, _ => none
  | .iaddrA len esz a i => match ρ a, ρ i with
    | .ptr c k off m, .int _ j => if len * esz ≤ m ∧ 0 ≤ j ∧ j < len then some (.ptr c k (off + j.toNat * esz) esz, h) else none
    | _, _ => none
  | .idx agg len esz x i => match ρ x, ρ i with
    | .agg xs, .int _ j => if xs.length = len * esz ∧ 0 ≤ j ∧ j < len then (mkv agg ((xs.drop (j.toNat * esz)).take esz)).map (·, h) else none
    | _, _ => none
  | .idxS x i => match ρ x, ρ i with
    | .str s, .int _ j => if 0 ≤ j ∧ j < s.length then some (.int .u8 (s.getD j.toNat 0).toNat, h) else none
    | _, _ => none
  | .sub esz x lo hi => match ρ x with
    | .nilS => match bnd (optv ρ hi) 0 0 with
      | some b => match bnd (optv ρ lo) 0 b with
        | some _ => some (.nilS, h)
        | none => none
      | none => none
    | .empS => match bnd (optv ρ hi) 0 0 with
      | some b => match bnd (optv ρ lo) 0 b with
        | some _ => some (.empS, h)
        | none => none
      | none => none
    | .slice c k off len e => if e = esz then match bnd (optv ρ hi) len len with
        | some b => match bnd (optv ρ lo) 0 b with
          | some a => some (.slice c k (off + a * esz) (b - a) esz, h)
          | none => none
        | none => none
      else none
    | _ => none
  | .sub0 x hi mx => match ρ x, ρ hi, ρ mx with
    | .nilS, .int _ 0, .int _ 0 => some (.nilS, h)
    | .empS, .int _ 0, .int _ 0 => some (.empS, h)
    | .slice .., .int _ 0, .int _ 0 => some (.empS, h)
    | _, _, _ => none
  | .subS x lo hi => match ρ x with
    | .str s => match bnd (optv ρ hi) s.length s.length with
      | some b => match bnd (optv ρ lo) 0 b with
        | some a => some (.str ((s.drop a).take (b - a)), h)
        | none => none
      | none => none
    | _ => none
  | .subA len esz a lo hi => match ρ a with
    | .ptr c k off m => if len * esz ≤ m ∧ (rdRow h c k off (len * esz)).isSome = true then match bnd (optv ρ hi) len len with
        | some b => match bnd (optv ρ lo) 0 b with
          | some a => some (.slice c k (off + a * esz) (b - a) esz, h)
          | none => none
        | none => none
      else none
    | _ => none
  | .make esz zero len cap => match ρ len, ρ cap with
    | .int _ n, .int _ m => if 0 ≤ n ∧ n ≤ m ∧ m ≤ room ∧ zero.length = esz then
        (newRow h (List.replicate n.toNat zero).flatten).map fun (c, h') => (.slice c 0 0 n.toNat esz, h') else none
    | _, _ => none
  | .mkmap => some (.map h.length, h ++ [.map []])
  | .mkfn f caps => some (.fn f (caps.map ρ), h)
  | .look kd zero ok m k => if keyIs kd (ρ k) = true then match (match ρ m with
      | .nilM => some []
      | .map c => match h[c]? with
        | some (.map es) => some es
        | _ => none
      | _ => none) with
    | some es => match mfind (ρ k) es with
      | some (some v) => some (if ok then .tup [v, .bool true] else v, h)
      | some none => some (if ok then .tup [zero, .bool false] else zero, h)
      | none => none
    | none => none
    else none
  | .mset kd m k v => if keyIs kd (ρ k) = true then match ρ m with
    | .map c => match h[c]? with
      | some (.map es) => match mfind (ρ k) es with
        | some _ => match ρ v with
          | .undef => none
          | u => some (.undef, h.set c (.map (mput (ρ k) u es)))
        | none => none
      | _ => none
    | _ => none
    else none
  | .mlen m => match ρ m with
    | .nilM => some (.int .i64 0, h)
    | .map c => match h[c]? with
      | some (.map es) => some (.int .i64 es.length, h)
      | _ => none
    | _ => none
  | .rng x => match ρ x with
    | .str s => some (.iter h.length, h ++ [.iter s 0])
    | _ => none
  | .rngM x => match ρ x with
    | .map c => match h[c]? with
      | some (.map es) => some (.iter h.length, h ++ [.mit c es.length []])
      | _ => none
    | _ => none
  | .ent it => match ρ it with
    | .iter c => match h[c]? with
      | some (.mit cm since seen) => match h[cm]? with
        | some (.map es) => match seen.getLast? with
          | some i => if es.length = since then (es[i]?).map fun e => (.tup [e.1, e.2], h) else none
          | none => none
        | _ => none
      | _ => none
    | _ => none
  | .nxt it => match ρ it with
    | .iter c => match h[c]? with
      | some (.iter s pos) => if pos < s.length then
          some (.tup [.bool true, .int .i64 pos, .int .i32 (dec s pos).1], h.set c (.iter s (pos + (dec s pos).2)))
        else some (.tup [.bool false], h)
      | _ => none
    | _ => none
  | .prj i x => match ρ x with
    | .tup vs => (vs[i]?).map (·, h)
    | _ => none
  | .call f xs => cf f (xs.map ρ) h
  | .callv x xs => match ρ x with
    | .fn f cap => cf f (xs.map ρ ++ cap) h
    | _ => none
  | .lenS x => match ρ x with
    | .str s => some (.int .i64 s.length, h)
    | _ => none
  | .lenV x => match ρ x with
    | .nilS | .empS => some (.int .i64 0, h)
    | .slice _ _ _ len _ => some (.int .i64 len, h)
    | _ => none
  | .app esz s x => match ρ x with
    | .nilS | .empS => apRow h esz (ρ s) 0 []
    | .slice c k off len e => if e = esz then match rdRow h c k off (len * esz) with
        | some vs => apRow h esz (ρ s) len vs
        | none => none
      else none
    | _ => none
  | .appS s x => match ρ x with
    | .str b => apRow h 1 (ρ s) b.length (b.map fun b => .int .u8 b.toNat)
    | _ => none
  | .copy esz d s => match ρ d, ρ s with
    | .slice c k off len e, .slice c' k' off' len' e' => if e = esz ∧ e' = esz then
        if min len' len = 0 then some (.int .i64 0, h) else match rdRow h c' k' off' (min len' len * esz) with
        | some vs => (wrRow h c k off vs).map fun h' => (.int .i64 ((min len' len : Nat) : Int), h')
        | none => none
      else none
    | _, _ => none
  | .clr zero x => match ρ x with
    | .nilS | .empS => some (.tup [], h)
    | .slice c k off len e => if e = zero.length then
        if len = 0 then some (.tup [], h) else (wrRow h c k off (List.replicate len zero).flatten).map fun h' => (.tup [], h')
      else none
    | _ => none
  | .mmx mx x y => match ρ x, ρ y with
    | .int k a, .int k' b => if k = k' then some (.int k (if mx then (if b > a then b else a) else (if b < a then b else a)), h) else none
    | .str a, .str b => if mx then none else some (.str (if (Op.bytesLess a b || a == b) then a else b), h)
    | _, _ => none

def env (e : Env) : Opd → AV
  | .t n => e.get n
  | .c v => v

def put (e : Env) (d : Option Nat) (v : AV) : Env :=
  match d with
  | some t => e.set t v
  | none => e

def evI (cf : CF) (i : I) (e : Env) (h : AH) : Option (Env × AH) :=
  match i.grd with
  | none => (evOp cf (env e) h i.op).map fun (v, h') => (put e i.dst v, h')
  | some (t, want) => match e.get t with
    | .bool b => if b = want then (evOp cf (env e) h i.op).map fun (v, h') => (put e i.dst v, h') else some (put e i.dst (.tup []), h)
    | .tup [] => some (put e i.dst (.tup []), h)
    | _ => none

def evR (cf : CF) : List I → Env → AH → Option (Env × AH)
  | [], e, h => some (e, h)
  | i :: is, e, h => match evI cf i e h with
    | some (e', h') => evR cf is e' h'
    | none => none

inductive X where
  | normal
  | exit (id : Nat)
  | ret

/-- The state before operation i of a region. -/
def stateAt (cf : CF) (is : List I) (i : Nat) (e : Env) (h : AH) : Option (Env × AH) := evR cf (is.take i) e h

def noCall : CF := fun _ _ _ => none

/-- What operation j reads does not turn by operation i. -/
def Stable (cf : CF) (is : List I) (e : Env) (h : AH) (j i : Nat) : Prop :=
  ∀ o e1 h1 e2 h2 e3 h3, is[j]? = some o → stateAt cf is j e h = some (e1, h1) → stateAt cf is i e h = some (e2, h2) → stateAt cf is (i + 1) e h = some (e3, h3) →
    (evOp noCall (env e1) h2 o.op).map (·.1) = (evOp noCall (env e1) h3 o.op).map (·.1)

open Classical in
/-- Pairs (j, i): a read and what does not turn it; (k, k): a literal that may be laid early. -/
noncomputable def evDraw (cf : CF) (is : List I) (ps : List (Nat × Nat)) (e : Env) (h : AH) : Option (Env × AH) :=
  if ∀ p ∈ ps, p.1 = p.2 ∨ Stable cf is e h p.1 p.2 then evR cf is e h else none

def evLoop (step : Env → AH → Option (X × Env × AH)) : Nat → Env → AH → Option (X × Env × AH)
  | 0, _, _ => none
  | n + 1, e, h => match step e h with
    | some (.normal, e', h') => evLoop step n e' h'
    | r => r

noncomputable def evC (cf : CF) (n : Nat) : C → Env → AH → Option (X × Env × AH)
  | .skip, e, h => some (.normal, e, h)
  | .reg is, e, h => (evR cf is e h).map fun (e', h') => (.normal, e', h')
  | .drw is ps, e, h => (evDraw cf is ps e h).map fun (e', h') => (.normal, e', h')
  | .kl ts c, e, h => evC cf n c (e.dels ts) h
  | .seq a b, e, h => match evC cf n a e h with
    | some (.normal, e', h') => evC cf n b e' h'
    | r => r
  | .cond x a b, e, h => match env e x with
    | .bool t => if t then evC cf n a e h else evC cf n b e h
    | _ => none
  | .blk id c, e, h => match evC cf n c e h with
    | some (.exit id', e', h') => if id' = id then some (.normal, e', h') else some (.exit id', e', h')
    | r => r
  | .loop c, e, h => evLoop (evC cf n c) n e h
  | .exit id, e, h => some (.exit id, e, h)
  | .ret, e, h => some (.ret, e, h)
  | .bad, _, _ => none

def res1 (e : Env) (h : AH) : Res → Option AV
  | .tmp t => some (e.get t)
  | .cell agg n t => match e.get t with
    | .ptr c k off m => if n ≤ m then match rdRow h c k off n with
        | some cs => mkv agg cs
        | none => none
      else none
    | _ => none
def resL (e : Env) (h : AH) : List Res → Option (List AV)
  | [] => some []
  | r :: rs => match res1 e h r, resL e h rs with
    | some v, some vs => some (v :: vs)
    | _, _ => none
def resV (e : Env) (h : AH) (rs : List Res) : Option AV :=
  match resL e h rs with
  | some [v] => some v
  | some vs => some (.tup vs)
  | none => none

abbrev Ext := Nat → Option (CF → List AV → AH → Option (AV × AH))

noncomputable def evF (T : Nat → Option FI) (E : Ext) : Nat → CF
  | 0 => fun _ _ _ => none
  | n + 1 => fun f xs h => match E f with
    | some F => F (evF T E n) xs h
    | none => match T f with
      | some fi => match evC (evF T E n) n fi.body (Env.init 0 xs) h with
        | some (.normal, e, h') => (resV e h' fi.res).map (·, h')
        | some (.ret, e, h') => (resV e h' fi.res).map (·, h')
        | _ => none
      | none => none

end Go.Proofs.YtnamhjdfegohbaaGreatDoor.Ab

/- BODIES of functions as compact literals, written by gen.py. -/
namespace Go.Proofs.YtnamhjdfegohbaaGreatDoor.Ab
open Go

/-- laws.FnLinesHidden -/
def fi561 : FI := ⟨.seq (.reg [⟨some 4, .mov (.c (.bool false)), none⟩]) (.kl [4] (.seq (.seq (.reg [⟨some 59, .mov (.t 0), none⟩, ⟨some 60, .mov (.t 1), none⟩, ⟨some 61, .call 22 [.t 59, .t 60], none⟩]) (.kl [59, 60] (.cond (.t 61) (.kl [0, 1, 61] (.seq (.reg [⟨some 4, .mov (.c (.bool true)), none⟩]) (.ret))) (.skip)))) (.kl [61] (.seq (.reg [⟨some 63, .mov (.t 0), none⟩, ⟨some 64, .call 562 [.t 63], none⟩, ⟨some 62, .mov (.t 64), none⟩, ⟨some 65, .prj 0 (.t 62), none⟩, ⟨some 66, .prj 1 (.t 62), none⟩, ⟨some 67, .prj 2 (.t 62), none⟩, ⟨some 5, .mov (.t 65), none⟩, ⟨some 6, .mov (.t 66), none⟩, ⟨some 7, .mov (.t 67), none⟩]) (.kl [0, 62, 63, 64, 65, 66, 67] (.seq (.reg [⟨some 69, .mov (.t 5), none⟩, ⟨some 70, .mov (.t 6), none⟩, ⟨some 71, .mov (.t 7), none⟩, ⟨some 72, .call 540 [.t 69, .t 70, .t 71], none⟩, ⟨some 68, .mov (.t 72), none⟩, ⟨some 73, .prj 0 (.t 68), none⟩, ⟨some 74, .prj 1 (.t 68), none⟩, ⟨some 8, .new [.int .i64 0, .nilS], none⟩, ⟨none, .store 2 (.t 8) (.t 73), none⟩, ⟨some 9, .mov (.t 74), none⟩]) (.kl [68, 69, 70, 71, 72, 73, 74] (.seq (.reg [⟨some 76, .mov (.t 5), none⟩, ⟨some 77, .mov (.t 6), none⟩, ⟨some 78, .mov (.t 7), none⟩, ⟨some 79, .call 541 [.t 76, .t 77, .t 78], none⟩, ⟨some 75, .mov (.t 79), none⟩, ⟨some 80, .prj 0 (.t 75), none⟩, ⟨some 81, .prj 1 (.t 75), none⟩, ⟨some 10, .new [.int .i64 0, .nilS], none⟩, ⟨none, .store 2 (.t 10) (.t 80), none⟩, ⟨some 11, .mov (.t 81), none⟩]) (.kl [7, 75, 76, 77, 78, 79, 80, 81] (.seq (.seq (.reg [⟨some 82, .mov (.t 9), none⟩, ⟨some 83, .mov (.t 11), none⟩, ⟨some 84, .beq true (.t 82) (.t 83), none⟩, ⟨some 85, .mov (.t 84), none⟩, ⟨some 86, .load true 2 (.t 8), some (85, false)⟩, ⟨some 87, .load true 2 (.t 10), some (85, false)⟩, ⟨some 88, .call 542 [.t 86, .t 87], some (85, false)⟩, ⟨some 89, .un .not (.t 88), some (85, false)⟩, ⟨some 90, .pick (.t 85) (.c (.bool true)) (.t 89), none⟩]) (.kl [10, 11, 82, 83, 84, 85, 86, 87, 88, 89] (.cond (.t 90) (.kl [1, 5, 6, 8, 9, 90] (.seq (.reg [⟨some 4, .mov (.c (.bool false)), none⟩]) (.ret))) (.skip)))) (.kl [90] (.seq (.seq (.reg [⟨some 91, .mov (.t 9), none⟩]) (.kl [9] (.cond (.t 91) (.kl [91] (.seq (.reg [⟨some 93, .load true 2 (.t 8), none⟩, ⟨some 94, .call 163 [.t 93], none⟩, ⟨some 92, .mov (.t 94), none⟩, ⟨some 95, .prj 0 (.t 92), none⟩, ⟨some 96, .prj 1 (.t 92), none⟩, ⟨some 12, .mov (.t 95), none⟩, ⟨some 13, .mov (.t 96), none⟩]) (.kl [92, 93, 94, 95, 96] (.seq (.reg [⟨some 98, .mov (.t 5), none⟩, ⟨some 99, .call 381 [.t 98], none⟩, ⟨some 97, .mov (.t 99), none⟩, ⟨some 100, .prj 0 (.t 97), none⟩, ⟨some 101, .prj 1 (.t 97), none⟩, ⟨some 14, .mov (.t 100), none⟩, ⟨some 15, .mov (.t 101), none⟩]) (.kl [97, 98, 99, 100, 101] (.seq (.reg [⟨some 103, .mov (.t 14), none⟩, ⟨some 104, .build [.int .i64 0, .int .i64 0, .int .i64 0] [(0, 1, .c (.int .i64 4)), (1, 1, .t 103)], none⟩, ⟨some 105, .mov (.t 5), none⟩, ⟨some 106, .call 185 [.t 104, .t 105], none⟩, ⟨some 102, .mov (.t 106), none⟩, ⟨some 107, .prj 0 (.t 102), none⟩, ⟨some 108, .prj 1 (.t 102), none⟩, ⟨some 16, .mov (.t 107), none⟩, ⟨some 17, .mov (.t 108), none⟩]) (.kl [14, 102, 103, 104, 105, 106, 107, 108] (.seq (.reg [⟨some 110, .mov (.t 5), none⟩, ⟨some 111, .call 19 [.t 110], none⟩, ⟨some 109, .mov (.t 111), none⟩, ⟨some 112, .prj 0 (.t 109), none⟩, ⟨some 113, .prj 1 (.t 109), none⟩, ⟨some 18, .mov (.t 112), none⟩, ⟨some 19, .mov (.t 113), none⟩]) (.kl [109, 110, 111, 112, 113] (.seq (.reg [⟨some 115, .mov (.t 18), none⟩, ⟨some 116, .lenV (.t 115), none⟩, ⟨some 117, .build [.int .i64 0, .int .i64 0, .int .i64 0] [(0, 1, .c (.int .i64 3)), (1, 1, .t 116)], none⟩, ⟨some 118, .mov (.t 5), none⟩, ⟨some 119, .call 185 [.t 117, .t 118], none⟩, ⟨some 114, .mov (.t 119), none⟩, ⟨some 120, .prj 0 (.t 114), none⟩, ⟨some 121, .prj 1 (.t 114), none⟩, ⟨some 20, .mov (.t 120), none⟩, ⟨some 21, .mov (.t 121), none⟩]) (.kl [18, 114, 115, 116, 117, 118, 119, 120, 121] (.seq (.reg [⟨some 122, .load true 2 (.t 8), none⟩, ⟨some 123, .call 166 [.t 122], none⟩, ⟨some 124, .un .not (.t 123), none⟩, ⟨some 125, .mov (.t 124), none⟩, ⟨some 126, .faddr 1 1 (.t 8), some (125, false)⟩, ⟨some 127, .load false 1 (.t 126), some (125, false)⟩, ⟨some 128, .lenV (.t 127), some (125, false)⟩, ⟨some 129, .mov (.t 6), some (125, false)⟩, ⟨some 130, .bin .neq (.t 128) (.t 129), some (125, false)⟩, ⟨some 131, .pick (.t 125) (.c (.bool true)) (.t 130), none⟩, ⟨some 132, .mov (.t 131), none⟩, ⟨some 133, .faddr 0 1 (.t 8), some (132, false)⟩, ⟨some 134, .load false 1 (.t 133), some (132, false)⟩, ⟨some 135, .mov (.t 5), some (132, false)⟩, ⟨some 136, .lenS (.t 135), some (132, false)⟩, ⟨some 137, .bin .neq (.t 134) (.t 136), some (132, false)⟩, ⟨some 138, .pick (.t 132) (.c (.bool true)) (.t 137), none⟩, ⟨some 139, .mov (.t 138), none⟩, ⟨some 140, .mov (.t 13), some (139, false)⟩, ⟨some 141, .un .not (.t 140), some (139, false)⟩, ⟨some 142, .pick (.t 139) (.c (.bool true)) (.t 141), none⟩, ⟨some 143, .mov (.t 142), none⟩, ⟨some 144, .mov (.t 12), some (143, false)⟩, ⟨some 145, .mov (.t 5), some (143, false)⟩, ⟨some 146, .call 543 [.t 144, .t 145], some (143, false)⟩, ⟨some 147, .un .not (.t 146), some (143, false)⟩, ⟨some 148, .pick (.t 143) (.c (.bool true)) (.t 147), none⟩, ⟨some 149, .mov (.t 148), none⟩, ⟨some 150, .mov (.t 15), some (149, false)⟩, ⟨some 151, .un .not (.t 150), some (149, false)⟩, ⟨some 152, .pick (.t 149) (.c (.bool true)) (.t 151), none⟩, ⟨some 153, .mov (.t 152), none⟩, ⟨some 154, .mov (.t 17), some (153, false)⟩, ⟨some 155, .un .not (.t 154), some (153, false)⟩, ⟨some 156, .pick (.t 153) (.c (.bool true)) (.t 155), none⟩, ⟨some 157, .mov (.t 156), none⟩, ⟨some 158, .mov (.t 16), some (157, false)⟩, ⟨some 159, .un .not (.t 158), some (157, false)⟩, ⟨some 160, .pick (.t 157) (.c (.bool true)) (.t 159), none⟩, ⟨some 161, .mov (.t 160), none⟩, ⟨some 162, .mov (.t 19), some (161, false)⟩, ⟨some 163, .un .not (.t 162), some (161, false)⟩, ⟨some 164, .pick (.t 161) (.c (.bool true)) (.t 163), none⟩, ⟨some 165, .mov (.t 164), none⟩, ⟨some 166, .mov (.t 21), some (165, false)⟩, ⟨some 167, .un .not (.t 166), some (165, false)⟩, ⟨some 168, .pick (.t 165) (.c (.bool true)) (.t 167), none⟩, ⟨some 169, .mov (.t 168), none⟩, ⟨some 170, .mov (.t 20), some (169, false)⟩, ⟨some 171, .un .not (.t 170), some (169, false)⟩, ⟨some 172, .pick (.t 169) (.c (.bool true)) (.t 171), none⟩]) (.kl [5, 6, 8, 12, 13, 15, 16, 17, 19, 20, 21, 122, 123, 124, 125, 126, 127, 128, 129, 130, 131, 132, 133, 134, 135, 136, 137, 138, 139, 140, 141, 142, 143, 144, 145, 146, 147, 148, 149, 150, 151, 152, 153, 154, 155, 156, 157, 158, 159, 160, 161, 162, 163, 164, 165, 166, 167, 168, 169, 170, 171] (.cond (.t 172) (.kl [1, 172] (.seq (.reg [⟨some 4, .mov (.c (.bool false)), none⟩]) (.ret))) (.skip))))))))))))))) (.skip)))) (.kl [5, 6, 8, 91, 172] (.seq (.reg [⟨some 173, .mov (.t 1), none⟩, ⟨some 174, .call 563 [.t 173], none⟩, ⟨some 22, .new [.int .i64 0, .nilS], none⟩, ⟨none, .store 2 (.t 22) (.t 174), none⟩]) (.kl [173, 174] (.seq (.reg [⟨some 176, .load true 2 (.t 22), none⟩, ⟨some 177, .call 214 [.t 176], none⟩, ⟨some 175, .mov (.t 177), none⟩, ⟨some 178, .prj 0 (.t 175), none⟩, ⟨some 179, .prj 1 (.t 175), none⟩, ⟨some 23, .new [.int .i64 0, .nilS], none⟩, ⟨none, .store 2 (.t 23) (.t 178), none⟩, ⟨some 24, .mov (.t 179), none⟩]) (.kl [175, 176, 177, 178, 179] (.seq (.reg [⟨some 181, .load true 2 (.t 22), none⟩, ⟨some 182, .call 213 [.t 181], none⟩, ⟨some 180, .mov (.t 182), none⟩, ⟨some 183, .prj 0 (.t 180), none⟩, ⟨some 184, .prj 1 (.t 180), none⟩, ⟨some 25, .new [.int .i64 0, .nilS], none⟩, ⟨none, .store 2 (.t 25) (.t 183), none⟩, ⟨some 26, .mov (.t 184), none⟩]) (.kl [180, 181, 182, 183, 184] (.seq (.reg [⟨some 186, .load true 2 (.t 22), none⟩, ⟨some 187, .call 142 [.t 186], none⟩, ⟨some 185, .mov (.t 187), none⟩, ⟨some 188, .prj 0 (.t 185), none⟩, ⟨some 189, .prj 1 (.t 185), none⟩, ⟨some 27, .mov (.t 188), none⟩, ⟨some 28, .mov (.t 189), none⟩]) (.kl [185, 186, 187, 188, 189] (.seq (.seq (.reg [⟨some 190, .mov (.t 24), none⟩, ⟨some 191, .mov (.t 26), none⟩, ⟨some 192, .beq true (.t 190) (.t 191), none⟩, ⟨some 193, .mov (.t 192), none⟩, ⟨some 194, .load true 2 (.t 23), some (193, false)⟩, ⟨some 195, .load true 2 (.t 25), some (193, false)⟩, ⟨some 196, .call 542 [.t 194, .t 195], some (193, false)⟩, ⟨some 197, .un .not (.t 196), some (193, false)⟩, ⟨some 198, .pick (.t 193) (.c (.bool true)) (.t 197), none⟩, ⟨some 199, .mov (.t 198), none⟩, ⟨some 200, .mov (.t 24), some (199, false)⟩, ⟨some 201, .mov (.t 28), some (199, false)⟩, ⟨some 202, .mov (.t 201), some (199, false)⟩, ⟨some 203, .mov (.t 27), some (202, true)⟩, ⟨some 204, .pick (.t 202) (.t 203) (.c (.bool false)), some (199, false)⟩, ⟨some 205, .beq true (.t 200) (.t 204), some (199, false)⟩, ⟨some 206, .pick (.t 199) (.c (.bool true)) (.t 205), none⟩]) (.kl [25, 26, 27, 28, 190, 191, 192, 193, 194, 195, 196, 197, 198, 199, 200, 201, 202, 203, 204, 205] (.cond (.t 206) (.kl [1, 22, 23, 24, 206] (.seq (.reg [⟨some 4, .mov (.c (.bool false)), none⟩]) (.ret))) (.skip)))) (.kl [206] (.seq (.seq (.reg [⟨some 207, .mov (.t 24), none⟩]) (.kl [24] (.cond (.t 207) (.kl [207] (.seq (.reg [⟨some 209, .load true 2 (.t 22), none⟩, ⟨some 210, .call 163 [.t 209], none⟩, ⟨some 208, .mov (.t 210), none⟩, ⟨some 211, .prj 0 (.t 208), none⟩, ⟨some 212, .prj 1 (.t 208), none⟩, ⟨some 29, .mov (.t 211), none⟩, ⟨some 30, .mov (.t 212), none⟩]) (.kl [208, 209, 210, 211, 212] (.seq (.reg [⟨some 214, .load true 2 (.t 23), none⟩, ⟨some 215, .call 163 [.t 214], none⟩, ⟨some 213, .mov (.t 215), none⟩, ⟨some 216, .prj 0 (.t 213), none⟩, ⟨some 217, .prj 1 (.t 213), none⟩, ⟨some 31, .mov (.t 216), none⟩, ⟨some 32, .mov (.t 217), none⟩]) (.kl [213, 214, 215, 216, 217] (.seq (.reg [⟨some 219, .load true 2 (.t 23), none⟩, ⟨some 220, .call 211 [.t 219], none⟩, ⟨some 218, .mov (.t 220), none⟩, ⟨some 221, .prj 0 (.t 218), none⟩, ⟨some 222, .prj 1 (.t 218), none⟩, ⟨some 33, .mov (.t 221), none⟩, ⟨some 34, .mov (.t 222), none⟩]) (.kl [218, 219, 220, 221, 222] (.seq (.reg [⟨some 223, .mov (.t 30), none⟩, ⟨some 224, .un .not (.t 223), none⟩, ⟨some 225, .mov (.t 224), none⟩, ⟨some 226, .mov (.t 32), some (225, false)⟩, ⟨some 227, .un .not (.t 226), some (225, false)⟩, ⟨some 228, .pick (.t 225) (.c (.bool true)) (.t 227), none⟩, ⟨some 229, .mov (.t 228), none⟩, ⟨some 230, .mov (.t 29), some (229, false)⟩, ⟨some 231, .mov (.t 31), some (229, false)⟩, ⟨some 232, .call 544 [.t 230, .t 231], some (229, false)⟩, ⟨some 233, .un .not (.t 232), some (229, false)⟩, ⟨some 234, .pick (.t 229) (.c (.bool true)) (.t 233), none⟩, ⟨some 235, .mov (.t 234), none⟩, ⟨some 236, .mov (.t 34), some (235, false)⟩, ⟨some 237, .un .not (.t 236), some (235, false)⟩, ⟨some 238, .pick (.t 235) (.c (.bool true)) (.t 237), none⟩, ⟨some 239, .mov (.t 238), none⟩, ⟨some 240, .mov (.t 33), some (239, false)⟩, ⟨some 241, .lenV (.t 240), some (239, false)⟩, ⟨some 242, .bin .neq (.t 241) (.c (.int .i64 0)), some (239, false)⟩, ⟨some 243, .pick (.t 239) (.c (.bool true)) (.t 242), none⟩, ⟨some 244, .mov (.t 243), none⟩, ⟨some 245, .faddr 1 1 (.t 23), some (244, false)⟩, ⟨some 246, .load false 1 (.t 245), some (244, false)⟩, ⟨some 247, .lenV (.t 246), some (244, false)⟩, ⟨some 248, .faddr 1 1 (.t 22), some (244, false)⟩, ⟨some 249, .load false 1 (.t 248), some (244, false)⟩, ⟨some 250, .lenV (.t 249), some (244, false)⟩, ⟨some 251, .bin .gtr (.t 247) (.t 250), some (244, false)⟩, ⟨some 252, .pick (.t 244) (.c (.bool true)) (.t 251), none⟩]) (.kl [22, 23, 29, 30, 31, 32, 33, 34, 223, 224, 225, 226, 227, 228, 229, 230, 231, 232, 233, 234, 235, 236, 237, 238, 239, 240, 241, 242, 243, 244, 245, 246, 247, 248, 249, 250, 251] (.cond (.t 252) (.kl [1, 252] (.seq (.reg [⟨some 4, .mov (.c (.bool false)), none⟩]) (.ret))) (.skip))))))))))) (.skip)))) (.kl [22, 23, 207, 252] (.seq (.reg [⟨some 254, .mov (.t 1), none⟩, ⟨some 255, .call 564 [.t 254], none⟩, ⟨some 253, .mov (.t 255), none⟩, ⟨some 256, .prj 0 (.t 253), none⟩, ⟨some 257, .prj 1 (.t 253), none⟩, ⟨some 35, .new [.int .i64 0, .nilS], none⟩, ⟨some 36, .new [.int .i64 0, .int .i64 0, .int .i64 0], none⟩, ⟨none, .store 2 (.t 35) (.t 256), none⟩, ⟨none, .store 3 (.t 36) (.t 257), none⟩]) (.kl [253, 254, 255, 256, 257] (.seq (.reg [⟨some 259, .load true 2 (.t 35), none⟩, ⟨some 260, .load true 3 (.t 36), none⟩, ⟨some 261, .call 545 [.t 259, .t 260], none⟩, ⟨some 258, .mov (.t 261), none⟩, ⟨some 262, .prj 0 (.t 258), none⟩, ⟨some 263, .prj 1 (.t 258), none⟩, ⟨some 37, .new [.int .i64 0, .nilS], none⟩, ⟨none, .store 2 (.t 37) (.t 262), none⟩, ⟨some 38, .mov (.t 263), none⟩]) (.kl [258, 259, 260, 261, 262, 263] (.seq (.reg [⟨some 265, .load true 2 (.t 35), none⟩, ⟨some 266, .load true 3 (.t 36), none⟩, ⟨some 267, .call 546 [.t 265, .t 266], none⟩, ⟨some 264, .mov (.t 267), none⟩, ⟨some 268, .prj 0 (.t 264), none⟩, ⟨some 269, .prj 1 (.t 264), none⟩, ⟨some 39, .new [.int .i64 0, .nilS], none⟩, ⟨none, .store 2 (.t 39) (.t 268), none⟩, ⟨some 40, .mov (.t 269), none⟩]) (.kl [264, 265, 266, 267, 268, 269] (.seq (.reg [⟨some 271, .mov (.t 1), none⟩, ⟨some 272, .call 565 [.t 271], none⟩, ⟨some 270, .mov (.t 272), none⟩, ⟨some 273, .prj 0 (.t 270), none⟩, ⟨some 274, .prj 1 (.t 270), none⟩, ⟨some 41, .new [.int .i64 0, .nilS], none⟩, ⟨none, .store 2 (.t 41) (.t 273), none⟩, ⟨some 42, .mov (.t 274), none⟩]) (.kl [270, 271, 272, 273, 274] (.seq (.reg [⟨some 276, .load true 2 (.t 41), none⟩, ⟨some 277, .mov (.t 42), none⟩, ⟨some 278, .call 547 [.t 276, .t 277], none⟩, ⟨some 275, .mov (.t 278), none⟩, ⟨some 279, .prj 0 (.t 275), none⟩, ⟨some 280, .prj 1 (.t 275), none⟩, ⟨some 43, .new [.int .i64 0, .nilS], none⟩, ⟨none, .store 2 (.t 43) (.t 279), none⟩, ⟨some 44, .mov (.t 280), none⟩]) (.kl [275, 276, 277, 278, 279, 280] (.seq (.reg [⟨some 282, .load true 2 (.t 41), none⟩, ⟨some 283, .mov (.t 42), none⟩, ⟨some 284, .call 548 [.t 282, .t 283], none⟩, ⟨some 281, .mov (.t 284), none⟩, ⟨some 285, .prj 0 (.t 281), none⟩, ⟨some 286, .prj 1 (.t 281), none⟩, ⟨some 45, .new [.int .i64 0, .nilS], none⟩, ⟨none, .store 2 (.t 45) (.t 285), none⟩, ⟨some 46, .mov (.t 286), none⟩]) (.kl [281, 282, 283, 284, 285, 286] (.seq (.reg [⟨some 288, .mov (.t 1), none⟩, ⟨some 289, .call 566 [.t 288], none⟩, ⟨some 287, .mov (.t 289), none⟩, ⟨some 290, .prj 0 (.t 287), none⟩, ⟨some 291, .prj 1 (.t 287), none⟩, ⟨some 47, .new [.int .i64 0, .int .i64 0, .int .i64 0], none⟩, ⟨none, .store 3 (.t 47) (.t 290), none⟩, ⟨some 48, .mov (.t 291), none⟩]) (.kl [287, 288, 289, 290, 291] (.seq (.reg [⟨some 293, .load true 3 (.t 47), none⟩, ⟨some 294, .mov (.t 48), none⟩, ⟨some 295, .call 185 [.t 293, .t 294], none⟩, ⟨some 292, .mov (.t 295), none⟩, ⟨some 296, .prj 0 (.t 292), none⟩, ⟨some 297, .prj 1 (.t 292), none⟩, ⟨some 49, .mov (.t 296), none⟩, ⟨some 50, .mov (.t 297), none⟩]) (.kl [292, 293, 294, 295, 296, 297] (.seq (.reg [⟨some 299, .load true 3 (.t 47), none⟩, ⟨some 300, .mov (.t 48), none⟩, ⟨some 301, .call 549 [.t 299, .t 300], none⟩, ⟨some 298, .mov (.t 301), none⟩, ⟨some 302, .prj 0 (.t 298), none⟩, ⟨some 303, .prj 1 (.t 298), none⟩, ⟨some 51, .mov (.t 302), none⟩, ⟨some 52, .mov (.t 303), none⟩]) (.kl [298, 299, 300, 301, 302, 303] (.seq (.reg [⟨some 305, .mov (.t 1), none⟩, ⟨some 306, .call 567 [.t 305], none⟩, ⟨some 304, .mov (.t 306), none⟩, ⟨some 307, .prj 0 (.t 304), none⟩, ⟨some 308, .prj 1 (.t 304), none⟩, ⟨some 54, .new [.int .i64 0, .int .i64 0, .int .i64 0], none⟩, ⟨some 53, .mov (.t 307), none⟩, ⟨none, .store 3 (.t 54) (.t 308), none⟩]) (.kl [1, 304, 305, 306, 307, 308] (.seq (.seq (.drw [⟨some 309, .mov (.t 38), none⟩, ⟨some 310, .mov (.t 40), none⟩, ⟨some 311, .beq true (.t 309) (.t 310), none⟩, ⟨some 312, .mov (.t 311), none⟩, ⟨some 313, .load true 2 (.t 37), some (312, false)⟩, ⟨some 314, .load true 2 (.t 39), some (312, false)⟩, ⟨some 315, .call 542 [.t 313, .t 314], some (312, false)⟩, ⟨some 316, .un .not (.t 315), some (312, false)⟩, ⟨some 317, .pick (.t 312) (.c (.bool true)) (.t 316), none⟩, ⟨some 318, .mov (.t 317), none⟩, ⟨some 319, .mov (.t 44), some (318, false)⟩, ⟨some 320, .mov (.t 46), some (318, false)⟩, ⟨some 321, .beq true (.t 319) (.t 320), some (318, false)⟩, ⟨some 322, .pick (.t 318) (.c (.bool true)) (.t 321), none⟩, ⟨some 323, .mov (.t 322), none⟩, ⟨some 324, .load true 2 (.t 43), some (323, false)⟩, ⟨some 325, .load true 2 (.t 45), some (323, false)⟩, ⟨some 326, .call 542 [.t 324, .t 325], some (323, false)⟩, ⟨some 327, .un .not (.t 326), some (323, false)⟩, ⟨some 328, .pick (.t 323) (.c (.bool true)) (.t 327), none⟩, ⟨some 329, .mov (.t 328), none⟩, ⟨some 330, .mov (.t 50), some (329, false)⟩, ⟨some 331, .mov (.t 52), some (329, false)⟩, ⟨some 332, .beq true (.t 330) (.t 331), some (329, false)⟩, ⟨some 333, .pick (.t 329) (.c (.bool true)) (.t 332), none⟩, ⟨some 334, .mov (.t 333), none⟩, ⟨some 335, .mov (.t 49), some (334, false)⟩, ⟨some 336, .mov (.t 51), some (334, false)⟩, ⟨some 337, .beq true (.t 335) (.t 336), some (334, false)⟩, ⟨some 338, .pick (.t 334) (.c (.bool true)) (.t 337), none⟩, ⟨some 339, .mov (.t 338), none⟩, ⟨some 340, .mov (.t 53), some (339, false)⟩, ⟨some 341, .load true 3 (.t 54), some (339, false)⟩, ⟨some 342, .call 183 [.t 340, .t 341], some (339, false)⟩, ⟨some 343, .mov (.t 53), some (339, false)⟩, ⟨some 344, .load true 3 (.t 54), some (339, false)⟩, ⟨some 345, .call 550 [.t 343, .t 344], some (339, false)⟩, ⟨some 346, .beq true (.t 342) (.t 345), some (339, false)⟩, ⟨some 347, .pick (.t 339) (.c (.bool true)) (.t 346), none⟩, ⟨some 348, .mov (.t 347), none⟩, ⟨some 349, .mov (.t 50), some (348, false)⟩, ⟨some 350, .mov (.t 349), some (348, false)⟩, ⟨some 351, .mov (.t 48), some (350, true)⟩, ⟨some 352, .lenS (.t 351), some (350, true)⟩, ⟨some 353, .load true 3 (.t 47), some (350, true)⟩, ⟨some 354, .call 183 [.t 352, .t 353], some (350, true)⟩, ⟨some 355, .un .not (.t 354), some (350, true)⟩, ⟨some 356, .pick (.t 350) (.t 355) (.c (.bool false)), some (348, false)⟩, ⟨some 357, .pick (.t 348) (.c (.bool true)) (.t 356), none⟩] [(35, 33)]) (.kl [39, 40, 45, 46, 47, 48, 49, 50, 51, 52, 53, 54, 309, 310, 311, 312, 313, 314, 315, 316, 317, 318, 319, 320, 321, 322, 323, 324, 325, 326, 327, 328, 329, 330, 331, 332, 333, 334, 335, 336, 337, 338, 339, 340, 341, 342, 343, 344, 345, 346, 347, 348, 349, 350, 351, 352, 353, 354, 355, 356] (.cond (.t 357) (.kl [35, 36, 37, 38, 41, 42, 43, 44, 357] (.seq (.reg [⟨some 4, .mov (.c (.bool false)), none⟩]) (.ret))) (.skip)))) (.kl [357] (.seq (.seq (.reg [⟨some 358, .mov (.t 38), none⟩]) (.kl [38] (.cond (.t 358) (.kl [358] (.seq (.reg [⟨some 360, .load true 2 (.t 37), none⟩, ⟨some 361, .faddr 1 1 (.t 35), none⟩, ⟨some 362, .load false 1 (.t 361), none⟩, ⟨some 363, .lenV (.t 362), none⟩, ⟨some 364, .call 547 [.t 360, .t 363], none⟩, ⟨some 359, .mov (.t 364), none⟩, ⟨some 365, .prj 0 (.t 359), none⟩, ⟨some 366, .prj 1 (.t 359), none⟩, ⟨some 55, .new [.int .i64 0, .nilS], none⟩, ⟨none, .store 2 (.t 55) (.t 365), none⟩, ⟨some 56, .mov (.t 366), none⟩]) (.kl [359, 360, 361, 362, 363, 364, 365, 366] (.seq (.drw [⟨some 367, .mov (.t 56), none⟩, ⟨some 368, .un .not (.t 367), none⟩, ⟨some 369, .mov (.t 368), none⟩, ⟨some 370, .load true 2 (.t 55), some (369, false)⟩, ⟨some 371, .load true 2 (.t 35), some (369, false)⟩, ⟨some 372, .call 542 [.t 370, .t 371], some (369, false)⟩, ⟨some 373, .un .not (.t 372), some (369, false)⟩, ⟨some 374, .pick (.t 369) (.c (.bool true)) (.t 373), none⟩, ⟨some 375, .mov (.t 374), none⟩, ⟨some 376, .faddr 1 1 (.t 37), some (375, false)⟩, ⟨some 377, .load false 1 (.t 376), some (375, false)⟩, ⟨some 378, .faddr 1 1 (.t 35), some (375, false)⟩, ⟨some 379, .load false 1 (.t 378), some (375, false)⟩, ⟨some 380, .lenV (.t 379), some (375, false)⟩, ⟨some 381, .iaddr 3 (.t 377) (.t 380), some (375, false)⟩, ⟨some 382, .load true 3 (.t 381), some (375, false)⟩, ⟨some 383, .load true 3 (.t 36), some (375, false)⟩, ⟨some 384, .aeq true [0, 0, 0] (.t 382) (.t 383), some (375, false)⟩, ⟨some 385, .pick (.t 375) (.c (.bool true)) (.t 384), none⟩] []) (.kl [35, 36, 37, 55, 56, 367, 368, 369, 370, 371, 372, 373, 374, 375, 376, 377, 378, 379, 380, 381, 382, 383, 384] (.cond (.t 385) (.kl [41, 42, 43, 44, 385] (.seq (.reg [⟨some 4, .mov (.c (.bool false)), none⟩]) (.ret))) (.skip))))))) (.skip)))) (.kl [35, 36, 37, 358, 385] (.seq (.seq (.reg [⟨some 386, .mov (.t 44), none⟩, ⟨some 387, .mov (.t 386), none⟩, ⟨some 388, .mov (.t 42), some (387, true)⟩, ⟨some 389, .faddr 1 1 (.t 41), some (387, true)⟩, ⟨some 390, .load false 1 (.t 389), some (387, true)⟩, ⟨some 391, .lenV (.t 390), some (387, true)⟩, ⟨some 392, .bin .sub (.t 391) (.c (.int .i64 1)), some (387, true)⟩, ⟨some 393, .bin .eql (.t 388) (.t 392), some (387, true)⟩, ⟨some 394, .pick (.t 387) (.t 393) (.c (.bool false)), none⟩]) (.kl [44, 386, 387, 388, 389, 390, 391, 392, 393] (.cond (.t 394) (.kl [394] (.seq (.drw [⟨some 396, .load true 2 (.t 43), none⟩, ⟨some 397, .faddr 1 1 (.t 41), none⟩, ⟨some 398, .load false 1 (.t 397), none⟩, ⟨some 399, .mov (.t 42), none⟩, ⟨some 400, .iaddr 3 (.t 398) (.t 399), none⟩, ⟨some 401, .load true 3 (.t 400), none⟩, ⟨some 402, .call 545 [.t 396, .t 401], none⟩, ⟨some 395, .mov (.t 402), none⟩, ⟨some 403, .prj 0 (.t 395), none⟩, ⟨some 404, .prj 1 (.t 395), none⟩, ⟨some 57, .new [.int .i64 0, .nilS], none⟩, ⟨none, .store 2 (.t 57) (.t 403), none⟩, ⟨some 58, .mov (.t 404), none⟩] [(10, 10), (0, 10), (2, 10), (5, 10)]) (.kl [42, 43, 395, 396, 397, 398, 399, 400, 401, 402, 403, 404] (.seq (.reg [⟨some 405, .mov (.t 58), none⟩, ⟨some 406, .mov (.t 405), none⟩, ⟨some 407, .load true 2 (.t 57), some (406, true)⟩, ⟨some 408, .load true 2 (.t 41), some (406, true)⟩, ⟨some 409, .call 542 [.t 407, .t 408], some (406, true)⟩, ⟨some 410, .pick (.t 406) (.t 409) (.c (.bool false)), none⟩, ⟨some 4, .mov (.t 410), none⟩]) (.kl [41, 57, 58, 405, 406, 407, 408, 409, 410] (.ret)))))) (.skip)))) (.kl [41, 42, 43, 394] (.seq (.reg [⟨some 4, .mov (.c (.bool true)), none⟩]) (.ret))))))))))))))))))))))))))))))))))))))))))))))))))))), [.tmp 4]⟩
-- lp540_0 HEAD [0, 6, 8, 9, 31, 32] | exit 0: [6, 9]
/-- impl.MakePuzzle -/
def lb540_0 : C := .kl [53] (.seq (.reg [⟨some 33, .bin .lss (.t 32) (.t 31), none⟩]) (.seq (.cond (.t 33) (.skip) (.kl [0, 8, 31, 32, 33] (.exit 0))) (.kl [33] (.seq (.blk 1 (.seq (.reg [⟨some 34, .mov (.t 8), none⟩, ⟨some 35, .callv (.t 34) [], none⟩, ⟨some 36, .bin .rem (.t 35) (.c (.int .i64 6)), none⟩, ⟨some 10, .mov (.t 36), none⟩, ⟨some 11, .mov (.c (.int .i64 0)), none⟩]) (.kl [34, 35, 36] (.seq (.seq (.reg [⟨some 37, .mov (.t 10), none⟩, ⟨some 38, .bin .eql (.t 37) (.c (.int .i64 0)), none⟩]) (.kl [37] (.cond (.t 38) (.kl [11, 38] (.reg [⟨some 39, .mov (.t 8), none⟩, ⟨some 40, .callv (.t 39) [], none⟩, ⟨some 41, .mov (.t 0), none⟩, ⟨some 42, .lenS (.t 41), none⟩, ⟨some 43, .bin .rem (.t 40) (.t 42), none⟩, ⟨some 11, .mov (.t 43), none⟩])) (.skip)))) (.kl [38, 39, 40, 41, 42, 43] (.drw [⟨some 44, .faddr 1 1 (.t 9), none⟩, ⟨some 45, .load false 1 (.t 44), none⟩, ⟨some 46, .mov (.t 10), none⟩, ⟨some 47, .mov (.t 11), none⟩, ⟨some 48, .mov (.t 0), none⟩, ⟨some 49, .call 187 [.t 46, .t 47, .t 48], none⟩, ⟨some 50, .lit 3 1 [.int .i64 0, .int .i64 0, .int .i64 0] [(0, 3, .t 49)], none⟩, ⟨some 51, .app 3 (.t 45) (.t 50), none⟩, ⟨some 52, .faddr 1 1 (.t 9), none⟩, ⟨none, .store 1 (.t 52) (.t 51), none⟩] [(1, 5), (1, 6)])))))) (.kl [10, 11, 44, 45, 46, 47, 48, 49, 50, 51, 52] (.reg [⟨some 53, .bin .add (.t 32) (.c (.int .i64 1)), none⟩, ⟨some 32, .mov (.t 53), none⟩]))))))
def lp540_0 : C := lb540_0
def fi540 : FI := ⟨.seq (.reg [⟨some 5, .box (.t 2), none⟩, ⟨some 6, .new [.int .i64 0, .nilS], none⟩, ⟨some 7, .mov (.c (.bool false)), none⟩]) (.kl [2, 7] (.seq (.seq (.reg [⟨some 12, .mov (.t 0), none⟩, ⟨some 13, .call 82 [.t 12, .c (.int .i64 5)], none⟩, ⟨some 14, .un .not (.t 13), none⟩, ⟨some 15, .mov (.t 14), none⟩, ⟨some 16, .mov (.t 1), some (15, false)⟩, ⟨some 17, .call 74 [.t 16, .c (.int .i64 0), .c (.int .i64 6)], some (15, false)⟩, ⟨some 18, .un .not (.t 17), some (15, false)⟩, ⟨some 19, .pick (.t 15) (.c (.bool true)) (.t 18), none⟩, ⟨some 20, .mov (.t 19), none⟩, ⟨some 21, .load false 1 (.t 5), some (20, false)⟩, ⟨some 22, .call 74 [.t 21, .c (.int .i64 0), .c (.int .i64 9999)], some (20, false)⟩, ⟨some 23, .un .not (.t 22), some (20, false)⟩, ⟨some 24, .pick (.t 20) (.c (.bool true)) (.t 23), none⟩]) (.kl [12, 13, 14, 15, 16, 17, 18, 19, 20, 21, 22, 23] (.cond (.t 24) (.kl [0, 1, 5, 24] (.seq (.reg [⟨some 25, .build [.int .i64 0, .nilS] [], none⟩, ⟨none, .store 2 (.t 6) (.t 25), none⟩, ⟨some 7, .mov (.c (.bool false)), none⟩]) (.kl [25] (.ret)))) (.skip)))) (.kl [24] (.seq (.reg [⟨some 26, .mkfn 593 [.t 5], none⟩, ⟨some 8, .mov (.t 26), none⟩]) (.kl [5, 26] (.seq (.reg [⟨some 27, .mov (.t 0), none⟩, ⟨some 28, .lenS (.t 27), none⟩, ⟨some 29, .lit0, none⟩, ⟨some 30, .build [.int .i64 0, .nilS] [(0, 1, .t 28), (1, 1, .t 29)], none⟩, ⟨some 9, .new [.int .i64 0, .nilS], none⟩, ⟨none, .store 2 (.t 9) (.t 30), none⟩]) (.kl [27, 28, 29, 30] (.seq (.seq (.reg [⟨some 31, .mov (.t 1), none⟩, ⟨some 32, .mov (.c (.int .i64 0)), none⟩]) (.kl [1] (.blk 0 (.loop lp540_0)))) (.seq (.reg [⟨some 54, .load true 2 (.t 9), none⟩, ⟨none, .store 2 (.t 6) (.t 54), none⟩, ⟨some 7, .mov (.c (.bool true)), none⟩]) (.kl [9, 54] (.ret))))))))))), [.cell true 2 6, .tmp 7]⟩
-- lp541_0 HEAD [0, 1, 6, 8, 9] | exit 0: [6, 8]
/-- spec.MakePuzzle -/
def lb541_0 : C := .kl [32, 33] (.seq (.seq (.reg [⟨some 30, .mov (.t 1), none⟩, ⟨some 31, .bin .gtr (.t 30) (.c (.int .i64 0)), none⟩]) (.kl [30] (.cond (.t 31) (.skip) (.kl [0, 1, 9, 31] (.exit 0))))) (.kl [31] (.seq (.blk 1 (.seq (.reg [⟨some 34, .mov (.t 9), none⟩, ⟨some 35, .call 595 [.t 34], none⟩, ⟨some 9, .mov (.t 35), none⟩]) (.kl [34, 35] (.seq (.reg [⟨some 36, .mov (.t 9), none⟩, ⟨some 37, .bin .rem (.t 36) (.c (.int .i64 6)), none⟩, ⟨some 10, .mov (.t 37), none⟩, ⟨some 11, .mov (.c (.int .i64 0)), none⟩]) (.kl [36, 37] (.seq (.seq (.reg [⟨some 38, .mov (.t 10), none⟩, ⟨some 39, .bin .eql (.t 38) (.c (.int .i64 0)), none⟩]) (.kl [38] (.cond (.t 39) (.kl [11, 39] (.seq (.reg [⟨some 40, .mov (.t 9), none⟩, ⟨some 41, .call 595 [.t 40], none⟩, ⟨some 9, .mov (.t 41), none⟩]) (.kl [40, 41] (.reg [⟨some 42, .mov (.t 9), none⟩, ⟨some 43, .mov (.t 0), none⟩, ⟨some 44, .lenS (.t 43), none⟩, ⟨some 45, .bin .rem (.t 42) (.t 44), none⟩, ⟨some 11, .mov (.t 45), none⟩])))) (.skip)))) (.kl [39, 42, 43, 44, 45] (.drw [⟨some 46, .faddr 1 1 (.t 8), none⟩, ⟨some 47, .load false 1 (.t 46), none⟩, ⟨some 48, .mov (.t 10), none⟩, ⟨some 49, .mov (.t 11), none⟩, ⟨some 50, .mov (.t 0), none⟩, ⟨some 51, .call 596 [.t 48, .t 49, .t 50], none⟩, ⟨some 52, .lit 3 1 [.int .i64 0, .int .i64 0, .int .i64 0] [(0, 3, .t 51)], none⟩, ⟨some 53, .app 3 (.t 47) (.t 52), none⟩, ⟨some 54, .faddr 1 1 (.t 8), none⟩, ⟨none, .store 1 (.t 54) (.t 53), none⟩] [(1, 5), (1, 6)])))))))) (.kl [10, 11, 46, 47, 48, 49, 50, 51, 52, 53, 54] (.reg [⟨some 32, .mov (.t 1), none⟩, ⟨some 33, .bin .sub (.t 32) (.c (.int .i64 1)), none⟩, ⟨some 1, .mov (.t 33), none⟩])))))
def lp541_0 : C := lb541_0
def fi541 : FI := ⟨.seq (.reg [⟨some 6, .new [.int .i64 0, .nilS], none⟩, ⟨some 7, .mov (.c (.bool false)), none⟩]) (.kl [7] (.seq (.seq (.reg [⟨some 12, .mov (.t 0), none⟩, ⟨some 13, .call 594 [.t 12], none⟩, ⟨some 14, .un .not (.t 13), none⟩, ⟨some 15, .mov (.t 14), none⟩, ⟨some 16, .mov (.t 1), some (15, false)⟩, ⟨some 17, .call 77 [.t 16, .c (.int .i64 0), .c (.int .i64 6)], some (15, false)⟩, ⟨some 18, .un .not (.t 17), some (15, false)⟩, ⟨some 19, .pick (.t 15) (.c (.bool true)) (.t 18), none⟩, ⟨some 20, .mov (.t 19), none⟩, ⟨some 21, .mov (.t 2), some (20, false)⟩, ⟨some 22, .call 77 [.t 21, .c (.int .i64 0), .c (.int .i64 9999)], some (20, false)⟩, ⟨some 23, .un .not (.t 22), some (20, false)⟩, ⟨some 24, .pick (.t 20) (.c (.bool true)) (.t 23), none⟩]) (.kl [12, 13, 14, 15, 16, 17, 18, 19, 20, 21, 22, 23] (.cond (.t 24) (.kl [0, 1, 2, 24] (.seq (.reg [⟨some 25, .build [.int .i64 0, .nilS] [], none⟩, ⟨none, .store 2 (.t 6) (.t 25), none⟩, ⟨some 7, .mov (.c (.bool false)), none⟩]) (.kl [25] (.ret)))) (.skip)))) (.kl [24] (.seq (.reg [⟨some 26, .mov (.t 0), none⟩, ⟨some 27, .lenS (.t 26), none⟩, ⟨some 28, .build [.int .i64 0, .nilS] [(0, 1, .t 27)], none⟩, ⟨some 8, .new [.int .i64 0, .nilS], none⟩, ⟨none, .store 2 (.t 8) (.t 28), none⟩]) (.kl [26, 27, 28] (.seq (.reg [⟨some 29, .mov (.t 2), none⟩, ⟨some 9, .mov (.t 29), none⟩]) (.kl [2, 29] (.seq (.blk 0 (.loop lp541_0)) (.seq (.reg [⟨some 55, .load true 2 (.t 8), none⟩, ⟨none, .store 2 (.t 6) (.t 55), none⟩, ⟨some 7, .mov (.c (.bool true)), none⟩]) (.kl [8, 55] (.ret))))))))))), [.cell true 2 6, .tmp 7]⟩
-- lp542_0 HEAD [2, 3, 22, 23] | exit 0: [] | ret: [4]
/-- laws.nPuzzle -/
def lb542_0 : C := .kl [37] (.seq (.reg [⟨some 24, .bin .lss (.t 23) (.t 22), none⟩]) (.seq (.cond (.t 24) (.skip) (.kl [2, 3, 22, 23, 24] (.exit 0))) (.kl [24] (.seq (.blk 1 (.seq (.reg [⟨some 25, .mov (.t 23), none⟩, ⟨some 5, .mov (.t 25), none⟩]) (.kl [25] (.seq (.drw [⟨some 26, .faddr 1 1 (.t 2), none⟩, ⟨some 27, .load false 1 (.t 26), none⟩, ⟨some 28, .mov (.t 5), none⟩, ⟨some 29, .iaddr 3 (.t 27) (.t 28), none⟩, ⟨some 30, .load true 3 (.t 29), none⟩, ⟨some 31, .faddr 1 1 (.t 3), none⟩, ⟨some 32, .load false 1 (.t 31), none⟩, ⟨some 33, .mov (.t 5), none⟩, ⟨some 34, .iaddr 3 (.t 32) (.t 33), none⟩, ⟨some 35, .load true 3 (.t 34), none⟩, ⟨some 36, .aeq true [0, 0, 0] (.t 30) (.t 35), none⟩] []) (.kl [5, 26, 27, 28, 29, 30, 31, 32, 33, 34, 35] (.cond (.t 36) (.kl [2, 3, 22, 23, 36] (.seq (.reg [⟨some 4, .mov (.c (.bool false)), none⟩]) (.ret))) (.skip))))))) (.kl [36] (.reg [⟨some 37, .bin .add (.t 23) (.c (.int .i64 1)), none⟩, ⟨some 23, .mov (.t 37), none⟩]))))))
def lp542_0 : C := lb542_0
def fi542 : FI := ⟨.seq (.reg [⟨some 2, .box (.t 0), none⟩, ⟨some 3, .box (.t 1), none⟩, ⟨some 4, .mov (.c (.bool false)), none⟩]) (.kl [0, 1, 4] (.seq (.seq (.reg [⟨some 6, .faddr 0 1 (.t 2), none⟩, ⟨some 7, .load false 1 (.t 6), none⟩, ⟨some 8, .faddr 0 1 (.t 3), none⟩, ⟨some 9, .load false 1 (.t 8), none⟩, ⟨some 10, .bin .neq (.t 7) (.t 9), none⟩, ⟨some 11, .mov (.t 10), none⟩, ⟨some 12, .faddr 1 1 (.t 2), some (11, false)⟩, ⟨some 13, .load false 1 (.t 12), some (11, false)⟩, ⟨some 14, .lenV (.t 13), some (11, false)⟩, ⟨some 15, .faddr 1 1 (.t 3), some (11, false)⟩, ⟨some 16, .load false 1 (.t 15), some (11, false)⟩, ⟨some 17, .lenV (.t 16), some (11, false)⟩, ⟨some 18, .bin .neq (.t 14) (.t 17), some (11, false)⟩, ⟨some 19, .pick (.t 11) (.c (.bool true)) (.t 18), none⟩]) (.kl [6, 7, 8, 9, 10, 11, 12, 13, 14, 15, 16, 17, 18] (.cond (.t 19) (.kl [2, 3, 19] (.seq (.reg [⟨some 4, .mov (.c (.bool false)), none⟩]) (.ret))) (.skip)))) (.kl [19] (.seq (.seq (.reg [⟨some 20, .faddr 1 1 (.t 2), none⟩, ⟨some 21, .load false 1 (.t 20), none⟩, ⟨some 22, .lenV (.t 21), none⟩, ⟨some 23, .mov (.c (.int .i64 0)), none⟩]) (.kl [20, 21] (.blk 0 (.loop lp542_0)))) (.seq (.reg [⟨some 4, .mov (.c (.bool true)), none⟩]) (.ret)))))), [.tmp 4]⟩
/-- impl.Solutions -/
def fi163 : FI := ⟨.seq (.reg [⟨some 1, .box (.t 0), none⟩, ⟨some 2, .mov (.c (.nilS)), none⟩, ⟨some 3, .mov (.c (.bool false)), none⟩]) (.kl [0, 2, 3] (.seq (.seq (.reg [⟨some 4, .load true 2 (.t 1), none⟩, ⟨some 5, .call 166 [.t 4], none⟩, ⟨some 6, .un .not (.t 5), none⟩]) (.kl [4, 5] (.cond (.t 6) (.kl [1, 6] (.seq (.reg [⟨some 2, .mov (.c (.nilS)), none⟩, ⟨some 3, .mov (.c (.bool false)), none⟩]) (.ret))) (.skip)))) (.kl [6] (.seq (.reg [⟨some 7, .faddr 0 1 (.t 1), none⟩, ⟨some 8, .load false 1 (.t 7), none⟩, ⟨some 9, .faddr 1 1 (.t 1), none⟩, ⟨some 10, .load false 1 (.t 9), none⟩, ⟨some 11, .call 167 [.t 8, .t 10], none⟩, ⟨some 2, .mov (.t 11), none⟩, ⟨some 3, .mov (.c (.bool true)), none⟩]) (.kl [1, 7, 8, 9, 10, 11] (.ret)))))), [.tmp 2, .tmp 3]⟩
/-- impl.PairsToPass -/
def fi381 : FI := ⟨.seq (.reg [⟨some 2, .mov (.c (.int .i64 0)), none⟩, ⟨some 3, .mov (.c (.bool false)), none⟩]) (.kl [2, 3] (.seq (.seq (.reg [⟨some 4, .mov (.t 0), none⟩, ⟨some 5, .call 106 [.t 4], none⟩, ⟨some 6, .un .not (.t 5), none⟩]) (.kl [4, 5] (.cond (.t 6) (.kl [0, 6] (.seq (.reg [⟨some 2, .mov (.c (.int .i64 0)), none⟩, ⟨some 3, .mov (.c (.bool false)), none⟩]) (.ret))) (.skip)))) (.kl [6] (.seq (.reg [⟨some 7, .mov (.t 0), none⟩, ⟨some 8, .call 191 [.t 7], none⟩, ⟨some 2, .mov (.t 8), none⟩, ⟨some 3, .mov (.c (.bool true)), none⟩]) (.kl [0, 7, 8] (.ret)))))), [.tmp 2, .tmp 3]⟩
/-- impl.DoesFit -/
def fi185 : FI := ⟨.seq (.reg [⟨some 2, .box (.t 0), none⟩, ⟨some 4, .mov (.c (.bool false)), none⟩, ⟨some 5, .mov (.c (.bool false)), none⟩]) (.kl [0, 4, 5] (.seq (.seq (.reg [⟨some 6, .mov (.t 1), none⟩, ⟨some 7, .call 82 [.t 6, .c (.int .i64 5)], none⟩, ⟨some 8, .un .not (.t 7), none⟩, ⟨some 9, .mov (.t 8), none⟩, ⟨some 10, .mov (.t 1), some (9, false)⟩, ⟨some 11, .lenS (.t 10), some (9, false)⟩, ⟨some 12, .load true 3 (.t 2), some (9, false)⟩, ⟨some 13, .call 183 [.t 11, .t 12], some (9, false)⟩, ⟨some 14, .un .not (.t 13), some (9, false)⟩, ⟨some 15, .pick (.t 9) (.c (.bool true)) (.t 14), none⟩]) (.kl [6, 7, 8, 9, 10, 11, 12, 13, 14] (.cond (.t 15) (.kl [1, 2, 15] (.seq (.reg [⟨some 4, .mov (.c (.bool false)), none⟩, ⟨some 5, .mov (.c (.bool false)), none⟩]) (.ret))) (.skip)))) (.kl [15] (.seq (.seq (.reg [⟨some 16, .faddr 0 1 (.t 2), none⟩, ⟨some 17, .load false 1 (.t 16), none⟩, ⟨some 18, .bin .eql (.t 17) (.c (.int .i64 0)), none⟩]) (.kl [16, 17] (.cond (.t 18) (.kl [18] (.seq (.reg [⟨some 19, .load true 3 (.t 2), none⟩, ⟨some 20, .mov (.t 1), none⟩, ⟨some 21, .call 186 [.t 19, .t 20], none⟩, ⟨some 4, .mov (.t 21), none⟩, ⟨some 5, .mov (.c (.bool true)), none⟩]) (.kl [1, 2, 19, 20, 21] (.ret)))) (.skip)))) (.kl [18] (.seq (.drw [⟨some 22, .faddr 0 1 (.t 2), none⟩, ⟨some 23, .load false 1 (.t 22), none⟩, ⟨some 24, .mov (.t 1), none⟩, ⟨some 25, .call 187 [.t 23, .c (.int .i64 0), .t 24], none⟩, ⟨some 26, .load true 3 (.t 2), none⟩, ⟨some 27, .aeq false [0, 0, 0] (.t 25) (.t 26), none⟩, ⟨some 4, .mov (.t 27), none⟩, ⟨some 5, .mov (.c (.bool true)), none⟩] [(4, 3)]) (.kl [1, 2, 22, 23, 24, 25, 26, 27] (.ret)))))))), [.tmp 4, .tmp 5]⟩
/-- impl.MovesOf -/
def fi19 : FI := ⟨.seq (.reg [⟨some 2, .mov (.c (.nilS)), none⟩, ⟨some 3, .mov (.c (.bool false)), none⟩]) (.kl [2, 3] (.seq (.reg [⟨some 4, .mov (.t 0), none⟩, ⟨some 5, .call 59 [.t 4, .c (.str [84, 70])], none⟩, ⟨some 6, .prj 0 (.t 5), none⟩, ⟨some 7, .prj 1 (.t 5), none⟩, ⟨some 2, .mov (.t 6), none⟩, ⟨some 3, .mov (.t 7), none⟩]) (.kl [0, 4, 5, 6, 7] (.ret)))), [.tmp 2, .tmp 3]⟩
/-- impl.IsPuzzle -/
def fi166 : FI := ⟨.seq (.reg [⟨some 1, .box (.t 0), none⟩, ⟨some 2, .mov (.c (.bool false)), none⟩]) (.kl [0, 2] (.seq (.reg [⟨some 3, .faddr 0 1 (.t 1), none⟩, ⟨some 4, .load false 1 (.t 3), none⟩, ⟨some 5, .call 74 [.t 4, .c (.int .i64 1), .c (.int .i64 5)], none⟩, ⟨some 6, .mov (.t 5), none⟩, ⟨some 7, .faddr 1 1 (.t 1), some (6, true)⟩, ⟨some 8, .load false 1 (.t 7), some (6, true)⟩, ⟨some 9, .lenV (.t 8), some (6, true)⟩, ⟨some 10, .bin .leq (.t 9) (.c (.int .i64 6)), some (6, true)⟩, ⟨some 11, .pick (.t 6) (.t 10) (.c (.bool false)), none⟩, ⟨some 12, .mov (.t 11), none⟩, ⟨some 13, .faddr 1 1 (.t 1), some (12, true)⟩, ⟨some 14, .load false 1 (.t 13), some (12, true)⟩, ⟨some 15, .mkfn 176 [.t 1], some (12, true)⟩, ⟨some 16, .call 177 [.t 14, .t 15], some (12, true)⟩, ⟨some 17, .un .not (.t 16), some (12, true)⟩, ⟨some 18, .pick (.t 12) (.t 17) (.c (.bool false)), none⟩, ⟨some 2, .mov (.t 18), none⟩]) (.kl [1, 3, 4, 5, 6, 7, 8, 9, 10, 11, 12, 13, 14, 15, 16, 17, 18] (.ret)))), [.tmp 2]⟩
-- lp543_0 HEAD [1, 7, 8, 9] | exit 0: [] | ret: [4]
/-- laws.nText -/
def lb543_0 : C := .kl [16] (.seq (.reg [⟨some 10, .bin .lss (.t 9) (.t 8), none⟩]) (.seq (.cond (.t 10) (.skip) (.kl [1, 7, 8, 9, 10] (.exit 0))) (.kl [10] (.seq (.blk 1 (.seq (.reg [⟨some 11, .iaddr 1 (.t 7) (.t 9), none⟩, ⟨some 12, .load false 1 (.t 11), none⟩, ⟨some 6, .mov (.t 12), none⟩]) (.kl [11, 12] (.seq (.reg [⟨some 13, .mov (.t 6), none⟩, ⟨some 14, .mov (.t 1), none⟩, ⟨some 15, .bin .eql (.t 13) (.t 14), none⟩]) (.kl [6, 13, 14] (.cond (.t 15) (.kl [1, 7, 8, 9, 15] (.seq (.reg [⟨some 4, .mov (.c (.bool true)), none⟩]) (.ret))) (.skip))))))) (.kl [15] (.reg [⟨some 16, .bin .add (.t 9) (.c (.int .i64 1)), none⟩, ⟨some 9, .mov (.t 16), none⟩]))))))
def lp543_0 : C := lb543_0
def fi543 : FI := ⟨.seq (.reg [⟨some 4, .mov (.c (.bool false)), none⟩]) (.kl [4] (.seq (.seq (.reg [⟨some 7, .mov (.t 0), none⟩, ⟨some 8, .lenV (.t 7), none⟩, ⟨some 9, .mov (.c (.int .i64 0)), none⟩]) (.kl [0] (.blk 0 (.loop lp543_0)))) (.seq (.reg [⟨some 4, .mov (.c (.bool false)), none⟩]) (.ret)))), [.tmp 4]⟩
-- lp214_0 HEAD [1, 2, 6, 7] | exit 0: [1, 2, 6]
/-- impl.HarderPuzzle -/
def lb214_0 : C := .kl [8, 33, 34, 35] (.seq (.seq (.reg [⟨some 20, .mov (.t 7), none⟩, ⟨some 21, .mov (.t 6), none⟩, ⟨some 22, .lenV (.t 21), none⟩, ⟨some 23, .bin .lss (.t 20) (.t 22), none⟩]) (.kl [20, 21, 22] (.cond (.t 23) (.skip) (.kl [7, 23] (.exit 0))))) (.kl [23] (.blk 1 (.seq (.reg [⟨some 24, .mov (.t 6), none⟩, ⟨some 25, .mov (.t 7), none⟩, ⟨some 26, .call 217 [.t 24, .t 25], none⟩, ⟨some 8, .mov (.t 26), none⟩]) (.kl [24, 25, 26] (.seq (.reg [⟨some 27, .faddr 0 1 (.t 1), none⟩, ⟨some 28, .load false 1 (.t 27), none⟩, ⟨some 29, .mov (.t 8), none⟩, ⟨some 30, .call 167 [.t 28, .t 29], none⟩, ⟨some 31, .lenV (.t 30), none⟩, ⟨some 32, .bin .eql (.t 31) (.c (.int .i64 1)), none⟩]) (.kl [27, 28, 29, 30, 31] (.cond (.t 32) (.kl [6, 32] (.reg [⟨some 33, .mov (.t 8), none⟩, ⟨some 6, .mov (.t 33), none⟩])) (.kl [8, 32] (.reg [⟨some 34, .mov (.t 7), none⟩, ⟨some 35, .bin .add (.t 34) (.c (.int .i64 1)), none⟩, ⟨some 7, .mov (.t 35), none⟩]))))))))))
def lp214_0 : C := lb214_0
def fi214 : FI := ⟨.seq (.reg [⟨some 1, .box (.t 0), none⟩, ⟨some 2, .new [.int .i64 0, .nilS], none⟩, ⟨some 3, .mov (.c (.bool false)), none⟩]) (.kl [0, 3] (.seq (.seq (.reg [⟨some 10, .load true 2 (.t 1), none⟩, ⟨some 11, .call 142 [.t 10], none⟩, ⟨some 9, .mov (.t 11), none⟩, ⟨some 12, .prj 0 (.t 9), none⟩, ⟨some 13, .prj 1 (.t 9), none⟩, ⟨some 4, .mov (.t 12), none⟩, ⟨some 5, .mov (.t 13), none⟩]) (.kl [5, 9, 10, 11, 12, 13] (.seq (.reg [⟨some 14, .mov (.t 4), none⟩, ⟨some 15, .un .not (.t 14), none⟩]) (.kl [4, 14] (.cond (.t 15) (.kl [1, 15] (.seq (.reg [⟨some 16, .build [.int .i64 0, .nilS] [], none⟩, ⟨none, .store 2 (.t 2) (.t 16), none⟩, ⟨some 3, .mov (.c (.bool false)), none⟩]) (.kl [16] (.ret)))) (.skip)))))) (.kl [15] (.seq (.reg [⟨some 17, .faddr 1 1 (.t 1), none⟩, ⟨some 18, .load false 1 (.t 17), none⟩, ⟨some 19, .call 218 [.t 18], none⟩, ⟨some 6, .mov (.t 19), none⟩]) (.kl [17, 18, 19] (.seq (.seq (.reg [⟨some 7, .mov (.c (.int .i64 0)), none⟩]) (.blk 0 (.loop lp214_0))) (.seq (.reg [⟨some 36, .faddr 0 1 (.t 1), none⟩, ⟨some 37, .load false 1 (.t 36), none⟩, ⟨some 38, .mov (.t 6), none⟩, ⟨some 39, .build [.int .i64 0, .nilS] [(0, 1, .t 37), (1, 1, .t 38)], none⟩, ⟨none, .store 2 (.t 2) (.t 39), none⟩, ⟨some 3, .mov (.c (.bool true)), none⟩]) (.kl [1, 6, 36, 37, 38, 39] (.ret))))))))), [.cell true 2 2, .tmp 3]⟩
-- lp213_0 HEAD [1, 2, 4, 5] | exit 0: [1, 2, 4]
/-- spec.HarderPuzzle -/
def lb213_0 : C := .kl [6, 34, 35, 36] (.seq (.seq (.reg [⟨some 23, .mov (.t 5), none⟩, ⟨some 24, .mov (.t 4), none⟩, ⟨some 25, .lenV (.t 24), none⟩, ⟨some 26, .bin .lss (.t 23) (.t 25), none⟩]) (.kl [23, 24, 25] (.cond (.t 26) (.skip) (.kl [5, 26] (.exit 0))))) (.kl [26] (.blk 1 (.seq (.reg [⟨some 27, .mov (.t 4), none⟩, ⟨some 28, .mov (.t 5), none⟩, ⟨some 29, .call 216 [.t 27, .t 28], none⟩, ⟨some 6, .mov (.t 29), none⟩]) (.kl [27, 28, 29] (.seq (.reg [⟨some 30, .faddr 0 1 (.t 1), none⟩, ⟨some 31, .load false 1 (.t 30), none⟩, ⟨some 32, .mov (.t 6), none⟩, ⟨some 33, .call 165 [.t 31, .t 32], none⟩]) (.kl [30, 31, 32] (.cond (.t 33) (.kl [4, 33] (.reg [⟨some 34, .mov (.t 6), none⟩, ⟨some 4, .mov (.t 34), none⟩])) (.kl [6, 33] (.reg [⟨some 35, .mov (.t 5), none⟩, ⟨some 36, .bin .add (.t 35) (.c (.int .i64 1)), none⟩, ⟨some 5, .mov (.t 36), none⟩]))))))))))
def lp213_0 : C := lb213_0
def fi213 : FI := ⟨.seq (.reg [⟨some 1, .box (.t 0), none⟩, ⟨some 2, .new [.int .i64 0, .nilS], none⟩, ⟨some 3, .mov (.c (.bool false)), none⟩]) (.kl [0, 3] (.seq (.seq (.reg [⟨some 7, .load true 2 (.t 1), none⟩, ⟨some 8, .call 160 [.t 7], none⟩, ⟨some 9, .un .not (.t 8), none⟩, ⟨some 10, .mov (.t 9), none⟩, ⟨some 11, .faddr 0 1 (.t 1), some (10, false)⟩, ⟨some 12, .load false 1 (.t 11), some (10, false)⟩, ⟨some 13, .faddr 1 1 (.t 1), some (10, false)⟩, ⟨some 14, .load false 1 (.t 13), some (10, false)⟩, ⟨some 15, .call 165 [.t 12, .t 14], some (10, false)⟩, ⟨some 16, .un .not (.t 15), some (10, false)⟩, ⟨some 17, .pick (.t 10) (.c (.bool true)) (.t 16), none⟩]) (.kl [7, 8, 9, 10, 11, 12, 13, 14, 15, 16] (.cond (.t 17) (.kl [1, 17] (.seq (.reg [⟨some 18, .build [.int .i64 0, .nilS] [], none⟩, ⟨none, .store 2 (.t 2) (.t 18), none⟩, ⟨some 3, .mov (.c (.bool false)), none⟩]) (.kl [18] (.ret)))) (.skip)))) (.kl [17] (.seq (.reg [⟨some 19, .lit0, none⟩, ⟨some 20, .faddr 1 1 (.t 1), none⟩, ⟨some 21, .load false 1 (.t 20), none⟩, ⟨some 22, .app 3 (.t 19) (.t 21), none⟩, ⟨some 4, .mov (.t 22), none⟩]) (.kl [19, 20, 21, 22] (.seq (.seq (.reg [⟨some 5, .mov (.c (.int .i64 0)), none⟩]) (.blk 0 (.loop lp213_0))) (.seq (.reg [⟨some 37, .faddr 0 1 (.t 1), none⟩, ⟨some 38, .load false 1 (.t 37), none⟩, ⟨some 39, .mov (.t 4), none⟩, ⟨some 40, .build [.int .i64 0, .nilS] [(0, 1, .t 38), (1, 1, .t 39)], none⟩, ⟨none, .store 2 (.t 2) (.t 40), none⟩, ⟨some 3, .mov (.c (.bool true)), none⟩]) (.kl [1, 4, 37, 38, 39, 40] (.ret))))))))), [.cell true 2 2, .tmp 3]⟩
/-- impl.IsSolved -/
def fi142 : FI := ⟨.seq (.reg [⟨some 1, .box (.t 0), none⟩, ⟨some 2, .mov (.c (.bool false)), none⟩, ⟨some 3, .mov (.c (.bool false)), none⟩]) (.kl [0, 2, 3] (.seq (.reg [⟨some 7, .load true 2 (.t 1), none⟩, ⟨some 8, .call 138 [.t 7], none⟩, ⟨some 6, .mov (.t 8), none⟩, ⟨some 9, .prj 0 (.t 6), none⟩, ⟨some 10, .prj 1 (.t 6), none⟩, ⟨some 4, .mov (.t 9), none⟩, ⟨some 5, .mov (.t 10), none⟩]) (.kl [1, 6, 7, 8, 9, 10] (.seq (.reg [⟨some 11, .mov (.t 4), none⟩, ⟨some 12, .bin .eql (.t 11) (.c (.int .i64 1)), none⟩, ⟨some 13, .mov (.t 5), none⟩, ⟨some 2, .mov (.t 12), none⟩, ⟨some 3, .mov (.t 13), none⟩]) (.kl [4, 5, 11, 12, 13] (.ret)))))), [.tmp 2, .tmp 3]⟩
-- lp211_0 HEAD [1, 4, 6, 18, 19] | exit 0: [6]
/-- impl.NeedlessClues -/
def lb211_0 : C := .kl [36] (.seq (.reg [⟨some 20, .bin .lss (.t 19) (.t 18), none⟩]) (.seq (.cond (.t 20) (.skip) (.kl [1, 4, 18, 19, 20] (.exit 0))) (.kl [20] (.seq (.blk 1 (.seq (.reg [⟨some 21, .mov (.t 19), none⟩, ⟨some 7, .mov (.t 21), none⟩]) (.kl [21] (.seq (.drw [⟨some 22, .faddr 0 1 (.t 1), none⟩, ⟨some 23, .load false 1 (.t 22), none⟩, ⟨some 24, .faddr 1 1 (.t 1), none⟩, ⟨some 25, .load false 1 (.t 24), none⟩, ⟨some 26, .mov (.t 7), none⟩, ⟨some 27, .call 217 [.t 25, .t 26], none⟩, ⟨some 28, .call 167 [.t 23, .t 27], none⟩, ⟨some 29, .lenV (.t 28), none⟩, ⟨some 30, .mov (.t 4), none⟩, ⟨some 31, .bin .eql (.t 29) (.t 30), none⟩] [(1, 5)]) (.kl [22, 23, 24, 25, 26, 27, 28, 29, 30] (.cond (.t 31) (.kl [31] (.reg [⟨some 32, .mov (.t 6), none⟩, ⟨some 33, .mov (.t 7), none⟩, ⟨some 34, .lit 1 1 [.int .i64 0] [(0, 1, .t 33)], none⟩, ⟨some 35, .app 1 (.t 32) (.t 34), none⟩, ⟨some 6, .mov (.t 35), none⟩])) (.skip))))))) (.kl [7, 31, 32, 33, 34, 35] (.reg [⟨some 36, .bin .add (.t 19) (.c (.int .i64 1)), none⟩, ⟨some 19, .mov (.t 36), none⟩]))))))
def lp211_0 : C := lb211_0
def fi211 : FI := ⟨.seq (.reg [⟨some 1, .box (.t 0), none⟩, ⟨some 2, .mov (.c (.nilS)), none⟩, ⟨some 3, .mov (.c (.bool false)), none⟩]) (.kl [0, 2, 3] (.seq (.reg [⟨some 9, .load true 2 (.t 1), none⟩, ⟨some 10, .call 138 [.t 9], none⟩, ⟨some 8, .mov (.t 10), none⟩, ⟨some 11, .prj 0 (.t 8), none⟩, ⟨some 12, .prj 1 (.t 8), none⟩, ⟨some 4, .mov (.t 11), none⟩, ⟨some 5, .mov (.t 12), none⟩]) (.kl [8, 9, 10, 11, 12] (.seq (.seq (.reg [⟨some 13, .mov (.t 5), none⟩, ⟨some 14, .un .not (.t 13), none⟩]) (.kl [5, 13] (.cond (.t 14) (.kl [1, 4, 14] (.seq (.reg [⟨some 2, .mov (.c (.nilS)), none⟩, ⟨some 3, .mov (.c (.bool false)), none⟩]) (.ret))) (.skip)))) (.kl [14] (.seq (.reg [⟨some 15, .lit0, none⟩, ⟨some 6, .mov (.t 15), none⟩]) (.kl [15] (.seq (.seq (.reg [⟨some 16, .faddr 1 1 (.t 1), none⟩, ⟨some 17, .load false 1 (.t 16), none⟩, ⟨some 18, .lenV (.t 17), none⟩, ⟨some 19, .mov (.c (.int .i64 0)), none⟩]) (.kl [16, 17] (.blk 0 (.loop lp211_0)))) (.seq (.reg [⟨some 37, .mov (.t 6), none⟩, ⟨some 2, .mov (.t 37), none⟩, ⟨some 3, .mov (.c (.bool true)), none⟩]) (.kl [6, 37] (.ret))))))))))), [.tmp 2, .tmp 3]⟩
-- lp544_0 HEAD [0, 1, 12, 13] | exit 0: [] | ret: [4]
/-- laws.nTexts -/
def lb544_0 : C := .kl [25] (.seq (.reg [⟨some 14, .bin .lss (.t 13) (.t 12), none⟩]) (.seq (.cond (.t 14) (.skip) (.kl [0, 1, 12, 13, 14] (.exit 0))) (.kl [14] (.seq (.blk 1 (.seq (.reg [⟨some 15, .mov (.t 13), none⟩, ⟨some 5, .mov (.t 15), none⟩]) (.kl [15] (.seq (.drw [⟨some 16, .mov (.t 0), none⟩, ⟨some 17, .mov (.t 5), none⟩, ⟨some 18, .iaddr 1 (.t 16) (.t 17), none⟩, ⟨some 19, .load false 1 (.t 18), none⟩, ⟨some 20, .mov (.t 1), none⟩, ⟨some 21, .mov (.t 5), none⟩, ⟨some 22, .iaddr 1 (.t 20) (.t 21), none⟩, ⟨some 23, .load false 1 (.t 22), none⟩, ⟨some 24, .bin .neq (.t 19) (.t 23), none⟩] []) (.kl [5, 16, 17, 18, 19, 20, 21, 22, 23] (.cond (.t 24) (.kl [0, 1, 12, 13, 24] (.seq (.reg [⟨some 4, .mov (.c (.bool false)), none⟩]) (.ret))) (.skip))))))) (.kl [24] (.reg [⟨some 25, .bin .add (.t 13) (.c (.int .i64 1)), none⟩, ⟨some 13, .mov (.t 25), none⟩]))))))
def lp544_0 : C := lb544_0
def fi544 : FI := ⟨.seq (.reg [⟨some 4, .mov (.c (.bool false)), none⟩]) (.kl [4] (.seq (.seq (.reg [⟨some 6, .mov (.t 0), none⟩, ⟨some 7, .lenV (.t 6), none⟩, ⟨some 8, .mov (.t 1), none⟩, ⟨some 9, .lenV (.t 8), none⟩, ⟨some 10, .bin .neq (.t 7) (.t 9), none⟩]) (.kl [6, 7, 8, 9] (.cond (.t 10) (.kl [0, 1, 10] (.seq (.reg [⟨some 4, .mov (.c (.bool false)), none⟩]) (.ret))) (.skip)))) (.kl [10] (.seq (.seq (.reg [⟨some 11, .mov (.t 0), none⟩, ⟨some 12, .lenV (.t 11), none⟩, ⟨some 13, .mov (.c (.int .i64 0)), none⟩]) (.kl [11] (.blk 0 (.loop lp544_0)))) (.seq (.reg [⟨some 4, .mov (.c (.bool true)), none⟩]) (.ret)))))), [.tmp 4]⟩
/-- impl.AddClue -/
def fi545 : FI := ⟨.seq (.reg [⟨some 2, .box (.t 0), none⟩, ⟨some 3, .box (.t 1), none⟩, ⟨some 4, .new [.int .i64 0, .nilS], none⟩, ⟨some 5, .mov (.c (.bool false)), none⟩]) (.kl [0, 1, 5] (.seq (.seq (.reg [⟨some 6, .load true 2 (.t 2), none⟩, ⟨some 7, .call 166 [.t 6], none⟩, ⟨some 8, .un .not (.t 7), none⟩, ⟨some 9, .mov (.t 8), none⟩, ⟨some 10, .faddr 0 1 (.t 2), some (9, false)⟩, ⟨some 11, .load false 1 (.t 10), some (9, false)⟩, ⟨some 12, .load true 3 (.t 3), some (9, false)⟩, ⟨some 13, .call 183 [.t 11, .t 12], some (9, false)⟩, ⟨some 14, .un .not (.t 13), some (9, false)⟩, ⟨some 15, .pick (.t 9) (.c (.bool true)) (.t 14), none⟩, ⟨some 16, .mov (.t 15), none⟩, ⟨some 17, .faddr 1 1 (.t 2), some (16, false)⟩, ⟨some 18, .load false 1 (.t 17), some (16, false)⟩, ⟨some 19, .lenV (.t 18), some (16, false)⟩, ⟨some 20, .bin .eql (.t 19) (.c (.int .i64 6)), some (16, false)⟩, ⟨some 21, .pick (.t 16) (.c (.bool true)) (.t 20), none⟩]) (.kl [6, 7, 8, 9, 10, 11, 12, 13, 14, 15, 16, 17, 18, 19, 20] (.cond (.t 21) (.kl [2, 3, 21] (.seq (.reg [⟨some 22, .build [.int .i64 0, .nilS] [], none⟩, ⟨none, .store 2 (.t 4) (.t 22), none⟩, ⟨some 5, .mov (.c (.bool false)), none⟩]) (.kl [22] (.ret)))) (.skip)))) (.kl [21] (.seq (.drw [⟨some 23, .faddr 0 1 (.t 2), none⟩, ⟨some 24, .load false 1 (.t 23), none⟩, ⟨some 25, .faddr 1 1 (.t 2), none⟩, ⟨some 26, .load false 1 (.t 25), none⟩, ⟨some 27, .call 218 [.t 26], none⟩, ⟨some 28, .load true 3 (.t 3), none⟩, ⟨some 29, .lit 3 1 [.int .i64 0, .int .i64 0, .int .i64 0] [(0, 3, .t 28)], none⟩, ⟨some 30, .app 3 (.t 27) (.t 29), none⟩, ⟨some 31, .build [.int .i64 0, .nilS] [(0, 1, .t 24), (1, 1, .t 30)], none⟩, ⟨none, .store 2 (.t 4) (.t 31), none⟩, ⟨some 5, .mov (.c (.bool true)), none⟩] [(6, 6), (5, 6), (1, 4), (1, 6), (1, 7), (3, 6), (5, 4)]) (.kl [2, 3, 23, 24, 25, 26, 27, 28, 29, 30, 31] (.ret)))))), [.cell true 2 4, .tmp 5]⟩
/-- spec.AddClue -/
def fi546 : FI := ⟨.seq (.reg [⟨some 2, .box (.t 0), none⟩, ⟨some 3, .box (.t 1), none⟩, ⟨some 4, .new [.int .i64 0, .nilS], none⟩, ⟨some 5, .mov (.c (.bool false)), none⟩]) (.kl [0, 1, 5] (.seq (.seq (.reg [⟨some 6, .load true 2 (.t 2), none⟩, ⟨some 7, .call 160 [.t 6], none⟩, ⟨some 8, .un .not (.t 7), none⟩, ⟨some 9, .mov (.t 8), none⟩, ⟨some 10, .faddr 0 1 (.t 2), some (9, false)⟩, ⟨some 11, .load false 1 (.t 10), some (9, false)⟩, ⟨some 12, .load true 3 (.t 3), some (9, false)⟩, ⟨some 13, .call 172 [.t 11, .t 12], some (9, false)⟩, ⟨some 14, .un .not (.t 13), some (9, false)⟩, ⟨some 15, .pick (.t 9) (.c (.bool true)) (.t 14), none⟩, ⟨some 16, .mov (.t 15), none⟩, ⟨some 17, .faddr 1 1 (.t 2), some (16, false)⟩, ⟨some 18, .load false 1 (.t 17), some (16, false)⟩, ⟨some 19, .lenV (.t 18), some (16, false)⟩, ⟨some 20, .bin .eql (.t 19) (.c (.int .i64 6)), some (16, false)⟩, ⟨some 21, .pick (.t 16) (.c (.bool true)) (.t 20), none⟩]) (.kl [6, 7, 8, 9, 10, 11, 12, 13, 14, 15, 16, 17, 18, 19, 20] (.cond (.t 21) (.kl [2, 3, 21] (.seq (.reg [⟨some 22, .build [.int .i64 0, .nilS] [], none⟩, ⟨none, .store 2 (.t 4) (.t 22), none⟩, ⟨some 5, .mov (.c (.bool false)), none⟩]) (.kl [22] (.ret)))) (.skip)))) (.kl [21] (.seq (.drw [⟨some 23, .faddr 0 1 (.t 2), none⟩, ⟨some 24, .load false 1 (.t 23), none⟩, ⟨some 25, .lit0, none⟩, ⟨some 26, .faddr 1 1 (.t 2), none⟩, ⟨some 27, .load false 1 (.t 26), none⟩, ⟨some 28, .app 3 (.t 25) (.t 27), none⟩, ⟨some 29, .load true 3 (.t 3), none⟩, ⟨some 30, .lit 3 1 [.int .i64 0, .int .i64 0, .int .i64 0] [(0, 3, .t 29)], none⟩, ⟨some 31, .app 3 (.t 28) (.t 30), none⟩, ⟨some 32, .build [.int .i64 0, .nilS] [(0, 1, .t 24), (1, 1, .t 31)], none⟩, ⟨none, .store 2 (.t 4) (.t 32), none⟩, ⟨some 5, .mov (.c (.bool true)), none⟩] [(7, 7), (6, 7), (1, 5), (1, 7), (1, 8), (4, 7), (6, 5)]) (.kl [2, 3, 23, 24, 25, 26, 27, 28, 29, 30, 31, 32] (.ret)))))), [.cell true 2 4, .tmp 5]⟩
/-- impl.DropClue -/
def fi547 : FI := ⟨.seq (.reg [⟨some 2, .box (.t 0), none⟩, ⟨some 4, .new [.int .i64 0, .nilS], none⟩, ⟨some 5, .mov (.c (.bool false)), none⟩]) (.kl [0, 5] (.seq (.seq (.reg [⟨some 6, .load true 2 (.t 2), none⟩, ⟨some 7, .call 166 [.t 6], none⟩, ⟨some 8, .un .not (.t 7), none⟩, ⟨some 9, .mov (.t 8), none⟩, ⟨some 10, .mov (.t 1), some (9, false)⟩, ⟨some 11, .faddr 1 1 (.t 2), some (9, false)⟩, ⟨some 12, .load false 1 (.t 11), some (9, false)⟩, ⟨some 13, .lenV (.t 12), some (9, false)⟩, ⟨some 14, .bin .sub (.t 13) (.c (.int .i64 1)), some (9, false)⟩, ⟨some 15, .call 74 [.t 10, .c (.int .i64 0), .t 14], some (9, false)⟩, ⟨some 16, .un .not (.t 15), some (9, false)⟩, ⟨some 17, .pick (.t 9) (.c (.bool true)) (.t 16), none⟩]) (.kl [6, 7, 8, 9, 10, 11, 12, 13, 14, 15, 16] (.cond (.t 17) (.kl [1, 2, 17] (.seq (.reg [⟨some 18, .build [.int .i64 0, .nilS] [], none⟩, ⟨none, .store 2 (.t 4) (.t 18), none⟩, ⟨some 5, .mov (.c (.bool false)), none⟩]) (.kl [18] (.ret)))) (.skip)))) (.kl [17] (.seq (.drw [⟨some 19, .faddr 0 1 (.t 2), none⟩, ⟨some 20, .load false 1 (.t 19), none⟩, ⟨some 21, .faddr 1 1 (.t 2), none⟩, ⟨some 22, .load false 1 (.t 21), none⟩, ⟨some 23, .mov (.t 1), none⟩, ⟨some 24, .call 217 [.t 22, .t 23], none⟩, ⟨some 25, .build [.int .i64 0, .nilS] [(0, 1, .t 20), (1, 1, .t 24)], none⟩, ⟨none, .store 2 (.t 4) (.t 25), none⟩, ⟨some 5, .mov (.c (.bool true)), none⟩] [(1, 5)]) (.kl [1, 2, 19, 20, 21, 22, 23, 24, 25] (.ret)))))), [.cell true 2 4, .tmp 5]⟩
/-- spec.DropClue -/
def fi548 : FI := ⟨.seq (.reg [⟨some 2, .box (.t 0), none⟩, ⟨some 4, .new [.int .i64 0, .nilS], none⟩, ⟨some 5, .mov (.c (.bool false)), none⟩]) (.kl [0, 5] (.seq (.seq (.reg [⟨some 6, .load true 2 (.t 2), none⟩, ⟨some 7, .call 160 [.t 6], none⟩, ⟨some 8, .un .not (.t 7), none⟩, ⟨some 9, .mov (.t 8), none⟩, ⟨some 10, .mov (.t 1), some (9, false)⟩, ⟨some 11, .faddr 1 1 (.t 2), some (9, false)⟩, ⟨some 12, .load false 1 (.t 11), some (9, false)⟩, ⟨some 13, .lenV (.t 12), some (9, false)⟩, ⟨some 14, .bin .sub (.t 13) (.c (.int .i64 1)), some (9, false)⟩, ⟨some 15, .call 77 [.t 10, .c (.int .i64 0), .t 14], some (9, false)⟩, ⟨some 16, .un .not (.t 15), some (9, false)⟩, ⟨some 17, .pick (.t 9) (.c (.bool true)) (.t 16), none⟩]) (.kl [6, 7, 8, 9, 10, 11, 12, 13, 14, 15, 16] (.cond (.t 17) (.kl [1, 2, 17] (.seq (.reg [⟨some 18, .build [.int .i64 0, .nilS] [], none⟩, ⟨none, .store 2 (.t 4) (.t 18), none⟩, ⟨some 5, .mov (.c (.bool false)), none⟩]) (.kl [18] (.ret)))) (.skip)))) (.kl [17] (.seq (.drw [⟨some 19, .faddr 0 1 (.t 2), none⟩, ⟨some 20, .load false 1 (.t 19), none⟩, ⟨some 21, .faddr 1 1 (.t 2), none⟩, ⟨some 22, .load false 1 (.t 21), none⟩, ⟨some 23, .mov (.t 1), none⟩, ⟨some 24, .call 216 [.t 22, .t 23], none⟩, ⟨some 25, .build [.int .i64 0, .nilS] [(0, 1, .t 20), (1, 1, .t 24)], none⟩, ⟨none, .store 2 (.t 4) (.t 25), none⟩, ⟨some 5, .mov (.c (.bool true)), none⟩] [(1, 5)]) (.kl [1, 2, 19, 20, 21, 22, 23, 24, 25] (.ret)))))), [.cell true 2 4, .tmp 5]⟩
/-- spec.DoesFit -/
def fi549 : FI := ⟨.seq (.reg [⟨some 2, .box (.t 0), none⟩, ⟨some 4, .mov (.c (.bool false)), none⟩, ⟨some 5, .mov (.c (.bool false)), none⟩]) (.kl [0, 4, 5] (.seq (.seq (.reg [⟨some 6, .mov (.t 1), none⟩, ⟨some 7, .call 594 [.t 6], none⟩, ⟨some 8, .un .not (.t 7), none⟩, ⟨some 9, .mov (.t 8), none⟩, ⟨some 10, .mov (.t 1), some (9, false)⟩, ⟨some 11, .lenS (.t 10), some (9, false)⟩, ⟨some 12, .load true 3 (.t 2), some (9, false)⟩, ⟨some 13, .call 172 [.t 11, .t 12], some (9, false)⟩, ⟨some 14, .un .not (.t 13), some (9, false)⟩, ⟨some 15, .pick (.t 9) (.c (.bool true)) (.t 14), none⟩]) (.kl [6, 7, 8, 9, 10, 11, 12, 13, 14] (.cond (.t 15) (.kl [1, 2, 15] (.seq (.reg [⟨some 4, .mov (.c (.bool false)), none⟩, ⟨some 5, .mov (.c (.bool false)), none⟩]) (.ret))) (.skip)))) (.kl [15] (.seq (.reg [⟨some 16, .load true 3 (.t 2), none⟩, ⟨some 17, .mov (.t 1), none⟩, ⟨some 18, .call 181 [.t 16, .t 17], none⟩, ⟨some 4, .mov (.t 18), none⟩, ⟨some 5, .mov (.c (.bool true)), none⟩]) (.kl [1, 2, 16, 17, 18] (.ret)))))), [.tmp 4, .tmp 5]⟩
/-- impl.IsClue -/
def fi183 : FI := ⟨.seq (.reg [⟨some 3, .box (.t 1), none⟩, ⟨some 4, .mov (.c (.bool false)), none⟩]) (.kl [1, 4] (.seq (.seq (.reg [⟨some 5, .mov (.t 0), none⟩, ⟨some 6, .call 74 [.t 5, .c (.int .i64 1), .c (.int .i64 5)], none⟩, ⟨some 7, .un .not (.t 6), none⟩]) (.kl [5, 6] (.cond (.t 7) (.kl [0, 3, 7] (.seq (.reg [⟨some 4, .mov (.c (.bool false)), none⟩]) (.ret))) (.skip)))) (.kl [7] (.seq (.seq (.reg [⟨some 8, .faddr 0 1 (.t 3), none⟩, ⟨some 9, .load false 1 (.t 8), none⟩]) (.kl [8] (.blk 0 (.seq (.reg [⟨some 11, .bin .eql (.t 9) (.c (.int .i64 0)), none⟩, ⟨some 10, .mov (.t 11), none⟩]) (.kl [11] (.cond (.t 10) (.kl [9, 10] (.seq (.reg [⟨some 12, .faddr 1 1 (.t 3), none⟩, ⟨some 13, .load false 1 (.t 12), none⟩, ⟨some 14, .mov (.t 0), none⟩, ⟨some 15, .bin .sub (.t 14) (.c (.int .i64 1)), none⟩, ⟨some 16, .call 74 [.t 13, .c (.int .i64 0), .t 15], none⟩, ⟨some 17, .mov (.t 16), none⟩, ⟨some 18, .faddr 2 1 (.t 3), some (17, true)⟩, ⟨some 19, .load false 1 (.t 18), some (17, true)⟩, ⟨some 20, .call 74 [.t 19, .c (.int .i64 0), .c (.int .i64 2)], some (17, true)⟩, ⟨some 21, .pick (.t 17) (.t 20) (.c (.bool false)), none⟩, ⟨some 4, .mov (.t 21), none⟩]) (.kl [0, 3, 12, 13, 14, 15, 16, 17, 18, 19, 20, 21] (.ret)))) (.kl [10] (.seq (.seq (.reg [⟨some 23, .bin .eql (.t 9) (.c (.int .i64 1)), none⟩, ⟨some 22, .mov (.t 23), none⟩]) (.kl [23] (.cond (.t 22) (.skip) (.kl [22] (.reg [⟨some 24, .bin .eql (.t 9) (.c (.int .i64 2)), none⟩, ⟨some 22, .mov (.t 24), none⟩]))))) (.kl [24] (.cond (.t 22) (.kl [9, 22] (.seq (.reg [⟨some 25, .faddr 1 1 (.t 3), none⟩, ⟨some 26, .load false 1 (.t 25), none⟩, ⟨some 27, .mov (.t 0), none⟩, ⟨some 28, .call 74 [.t 26, .c (.int .i64 0), .t 27], none⟩, ⟨some 29, .mov (.t 28), none⟩, ⟨some 30, .faddr 2 1 (.t 3), some (29, true)⟩, ⟨some 31, .load false 1 (.t 30), some (29, true)⟩, ⟨some 32, .bin .eql (.t 31) (.c (.int .i64 0)), some (29, true)⟩, ⟨some 33, .pick (.t 29) (.t 32) (.c (.bool false)), none⟩, ⟨some 4, .mov (.t 33), none⟩]) (.kl [0, 3, 25, 26, 27, 28, 29, 30, 31, 32, 33] (.ret)))) (.kl [22] (.seq (.reg [⟨some 35, .bin .eql (.t 9) (.c (.int .i64 3)), none⟩, ⟨some 34, .mov (.t 35), none⟩]) (.kl [35] (.cond (.t 34) (.kl [9, 34] (.seq (.reg [⟨some 36, .faddr 1 1 (.t 3), none⟩, ⟨some 37, .load false 1 (.t 36), none⟩, ⟨some 38, .mov (.t 0), none⟩, ⟨some 39, .bin .mul (.c (.int .i64 2)) (.t 38), none⟩, ⟨some 40, .call 74 [.t 37, .c (.int .i64 0), .t 39], none⟩, ⟨some 41, .mov (.t 40), none⟩, ⟨some 42, .faddr 2 1 (.t 3), some (41, true)⟩, ⟨some 43, .load false 1 (.t 42), some (41, true)⟩, ⟨some 44, .bin .eql (.t 43) (.c (.int .i64 0)), some (41, true)⟩, ⟨some 45, .pick (.t 41) (.t 44) (.c (.bool false)), none⟩, ⟨some 4, .mov (.t 45), none⟩]) (.kl [0, 3, 36, 37, 38, 39, 40, 41, 42, 43, 44, 45] (.ret)))) (.kl [0, 34] (.seq (.reg [⟨some 47, .bin .eql (.t 9) (.c (.int .i64 4)), none⟩, ⟨some 46, .mov (.t 47), none⟩]) (.kl [47] (.cond (.t 46) (.kl [9, 46] (.seq (.reg [⟨some 48, .faddr 1 1 (.t 3), none⟩, ⟨some 49, .load false 1 (.t 48), none⟩, ⟨some 50, .call 74 [.t 49, .c (.int .i64 0), .c (.int .i64 10)], none⟩, ⟨some 51, .mov (.t 50), none⟩, ⟨some 52, .faddr 2 1 (.t 3), some (51, true)⟩, ⟨some 53, .load false 1 (.t 52), some (51, true)⟩, ⟨some 54, .bin .eql (.t 53) (.c (.int .i64 0)), some (51, true)⟩, ⟨some 55, .pick (.t 51) (.t 54) (.c (.bool false)), none⟩, ⟨some 4, .mov (.t 55), none⟩]) (.kl [3, 48, 49, 50, 51, 52, 53, 54, 55] (.ret)))) (.kl [46] (.seq (.reg [⟨some 57, .bin .eql (.t 9) (.c (.int .i64 5)), none⟩, ⟨some 56, .mov (.t 57), none⟩]) (.kl [9, 57] (.cond (.t 56) (.kl [56] (.seq (.reg [⟨some 58, .faddr 1 1 (.t 3), none⟩, ⟨some 59, .load false 1 (.t 58), none⟩, ⟨some 60, .call 74 [.t 59, .c (.int .i64 0), .c (.int .i64 3)], none⟩, ⟨some 61, .mov (.t 60), none⟩, ⟨some 62, .faddr 2 1 (.t 3), some (61, true)⟩, ⟨some 63, .load false 1 (.t 62), some (61, true)⟩, ⟨some 64, .bin .eql (.t 63) (.c (.int .i64 0)), some (61, true)⟩, ⟨some 65, .pick (.t 61) (.t 64) (.c (.bool false)), none⟩, ⟨some 4, .mov (.t 65), none⟩]) (.kl [3, 58, 59, 60, 61, 62, 63, 64, 65] (.ret)))) (.skip))))))))))))))))))))))) (.kl [3, 56] (.seq (.reg [⟨some 4, .mov (.c (.bool false)), none⟩]) (.ret))))))), [.tmp 4]⟩
/-- spec.IsClue -/
def fi550 : FI := ⟨.seq (.reg [⟨some 3, .box (.t 1), none⟩, ⟨some 4, .mov (.c (.bool false)), none⟩]) (.kl [1, 4] (.seq (.reg [⟨some 5, .mov (.t 0), none⟩, ⟨some 6, .call 171 [.t 5], none⟩, ⟨some 7, .mov (.t 6), none⟩, ⟨some 8, .mov (.t 0), some (7, true)⟩, ⟨some 9, .load true 3 (.t 3), some (7, true)⟩, ⟨some 10, .call 172 [.t 8, .t 9], some (7, true)⟩, ⟨some 11, .pick (.t 7) (.t 10) (.c (.bool false)), none⟩, ⟨some 4, .mov (.t 11), none⟩]) (.kl [0, 3, 5, 6, 7, 8, 9, 10, 11] (.ret)))), [.tmp 4]⟩
/-- laws.big -/
def fi22 : FI := ⟨.seq (.reg [⟨some 4, .mov (.c (.bool false)), none⟩]) (.kl [4] (.seq (.reg [⟨some 5, .mov (.t 0), none⟩, ⟨some 6, .lenV (.t 5), none⟩, ⟨some 7, .bin .gtr (.t 6) (.c (.int .i64 1048576)), none⟩, ⟨some 8, .mov (.t 7), none⟩, ⟨some 9, .mov (.t 1), some (8, false)⟩, ⟨some 10, .lenV (.t 9), some (8, false)⟩, ⟨some 11, .mov (.t 0), some (8, false)⟩, ⟨some 12, .lenV (.t 11), some (8, false)⟩, ⟨some 13, .bin .sub (.c (.int .i64 1048576)) (.t 12), some (8, false)⟩, ⟨some 14, .bin .gtr (.t 10) (.t 13), some (8, false)⟩, ⟨some 15, .pick (.t 8) (.c (.bool true)) (.t 14), none⟩, ⟨some 4, .mov (.t 15), none⟩]) (.kl [0, 1, 5, 6, 7, 8, 9, 10, 11, 12, 13, 14, 15] (.ret)))), [.tmp 4]⟩
/-- spec.DrawMakePuzzle -/
def fi562 : FI := ⟨.seq (.reg [⟨some 2, .mov (.c (.str [])), none⟩, ⟨some 3, .mov (.c (.int .i64 0)), none⟩, ⟨some 4, .mov (.c (.int .i64 0)), none⟩]) (.kl [2, 3, 4] (.seq (.reg [⟨some 6, .mov (.t 0), none⟩, ⟨some 7, .build [.nilS, .int .i64 0, .int .u64 0] [(0, 1, .t 6)], none⟩, ⟨some 8, .box (.t 7), none⟩, ⟨some 5, .mov (.t 8), none⟩]) (.kl [0, 6, 7, 8] (.seq (.seq (.reg [⟨some 9, .mov (.t 5), none⟩, ⟨some 10, .call 64 [.t 9, .c (.int .i64 12)], none⟩]) (.kl [9] (.cond (.t 10) (.kl [10] (.seq (.reg [⟨some 11, .mov (.t 5), none⟩, ⟨some 12, .call 101 [.t 11], none⟩, ⟨some 13, .mov (.t 5), none⟩, ⟨some 14, .lit 1 3 [.int .i64 0, .int .i64 0, .int .i64 0] [(0, 1, .c (.int .i64 (-1))), (1, 1, .c (.int .i64 6)), (2, 1, .c (.int .i64 7))], none⟩, ⟨some 15, .call 62 [.t 13, .t 14], none⟩, ⟨some 16, .mov (.t 5), none⟩, ⟨some 17, .lit 1 3 [.int .i64 0, .int .i64 0, .int .i64 0] [(0, 1, .c (.int .i64 (-1))), (1, 1, .c (.int .i64 9999)), (2, 1, .c (.int .i64 10000))], none⟩, ⟨some 18, .call 62 [.t 16, .t 17], none⟩, ⟨some 2, .mov (.t 12), none⟩, ⟨some 3, .mov (.t 15), none⟩, ⟨some 4, .mov (.t 18), none⟩]) (.kl [5, 11, 12, 13, 14, 15, 16, 17, 18] (.ret)))) (.skip)))) (.kl [10] (.seq (.reg [⟨some 19, .mov (.t 5), none⟩, ⟨some 20, .call 99 [.t 19, .c (.int .i64 6)], none⟩, ⟨some 21, .mov (.t 5), none⟩, ⟨some 22, .call 63 [.t 21, .c (.int .i64 7)], none⟩, ⟨some 23, .mov (.t 5), none⟩, ⟨some 24, .call 63 [.t 23, .c (.int .i64 10000)], none⟩, ⟨some 2, .mov (.t 20), none⟩, ⟨some 3, .mov (.t 22), none⟩, ⟨some 4, .mov (.t 24), none⟩]) (.kl [5, 19, 20, 21, 22, 23, 24] (.ret)))))))), [.tmp 2, .tmp 3, .tmp 4]⟩
-- lp563_0 HEAD [2, 4, 5, 27] | exit 0: [2, 5]
/-- spec.DrawHarderPuzzle -/
def lb563_0 : C := .kl [7, 31, 32, 33, 34, 35, 36, 37, 38] (.seq (.reg [⟨some 28, .nxt (.t 27), none⟩, ⟨some 29, .prj 0 (.t 28), none⟩]) (.seq (.cond (.t 29) (.skip) (.kl [4, 27, 28, 29] (.exit 0))) (.kl [29] (.blk 1 (.seq (.reg [⟨some 30, .prj 1 (.t 28), none⟩, ⟨some 7, .mov (.t 30), none⟩]) (.kl [28, 30] (.drw [⟨some 31, .faddr 1 1 (.t 5), none⟩, ⟨some 32, .load false 1 (.t 31), none⟩, ⟨some 33, .mov (.t 7), none⟩, ⟨some 34, .mov (.t 4), none⟩, ⟨some 35, .call 596 [.c (.int .i64 0), .t 33, .t 34], none⟩, ⟨some 36, .lit 3 1 [.int .i64 0, .int .i64 0, .int .i64 0] [(0, 3, .t 35)], none⟩, ⟨some 37, .app 3 (.t 32) (.t 36), none⟩, ⟨some 38, .faddr 1 1 (.t 5), none⟩, ⟨none, .store 1 (.t 38) (.t 37), none⟩] [(1, 4), (1, 5)])))))))
def lp563_0 : C := lb563_0
def fi563 : FI := ⟨.seq (.reg [⟨some 2, .new [.int .i64 0, .nilS], none⟩]) (.seq (.reg [⟨some 8, .mov (.t 0), none⟩, ⟨some 9, .build [.nilS, .int .i64 0, .int .u64 0] [(0, 1, .t 8)], none⟩, ⟨some 10, .box (.t 9), none⟩, ⟨some 3, .mov (.t 10), none⟩]) (.kl [0, 8, 9, 10] (.seq (.seq (.reg [⟨some 11, .mov (.t 3), none⟩, ⟨some 12, .call 64 [.t 11, .c (.int .i64 4)], none⟩]) (.kl [11] (.cond (.t 12) (.kl [12] (.seq (.reg [⟨some 13, .mov (.t 3), none⟩, ⟨some 14, .call 602 [.t 13], none⟩, ⟨none, .store 2 (.t 2) (.t 14), none⟩]) (.kl [3, 13, 14] (.ret)))) (.skip)))) (.kl [12] (.seq (.reg [⟨some 15, .mov (.t 3), none⟩, ⟨some 16, .call 99 [.t 15, .c (.int .i64 3)], none⟩, ⟨some 4, .mov (.t 16), none⟩]) (.kl [15, 16] (.seq (.reg [⟨some 18, .mov (.t 4), none⟩, ⟨some 19, .mov (.t 3), none⟩, ⟨some 20, .call 63 [.t 19, .c (.int .i64 4)], none⟩, ⟨some 21, .mov (.t 3), none⟩, ⟨some 22, .call 63 [.t 21, .c (.int .i64 10000)], none⟩, ⟨some 23, .call 541 [.t 18, .t 20, .t 22], none⟩, ⟨some 17, .mov (.t 23), none⟩, ⟨some 24, .prj 0 (.t 17), none⟩, ⟨some 25, .prj 1 (.t 17), none⟩, ⟨some 5, .new [.int .i64 0, .nilS], none⟩, ⟨none, .store 2 (.t 5) (.t 24), none⟩, ⟨some 6, .mov (.t 25), none⟩]) (.kl [3, 6, 17, 18, 19, 20, 21, 22, 23, 24, 25] (.seq (.seq (.reg [⟨some 26, .mov (.t 4), none⟩, ⟨some 27, .rng (.t 26), none⟩]) (.kl [26] (.blk 0 (.loop lp563_0)))) (.seq (.reg [⟨some 39, .load true 2 (.t 5), none⟩, ⟨none, .store 2 (.t 2) (.t 39), none⟩]) (.kl [5, 39] (.ret)))))))))))), [.cell true 2 2]⟩
/-- spec.DrawAddClue -/
def fi564 : FI := ⟨.seq (.reg [⟨some 2, .new [.int .i64 0, .nilS], none⟩, ⟨some 3, .new [.int .i64 0, .int .i64 0, .int .i64 0], none⟩]) (.seq (.reg [⟨some 5, .mov (.t 0), none⟩, ⟨some 6, .build [.nilS, .int .i64 0, .int .u64 0] [(0, 1, .t 5)], none⟩, ⟨some 7, .box (.t 6), none⟩, ⟨some 4, .mov (.t 7), none⟩]) (.kl [0, 5, 6, 7] (.seq (.reg [⟨some 8, .mov (.t 4), none⟩, ⟨some 9, .call 602 [.t 8], none⟩, ⟨some 10, .mov (.t 4), none⟩, ⟨some 11, .call 603 [.t 10], none⟩, ⟨none, .store 2 (.t 2) (.t 9), none⟩, ⟨none, .store 3 (.t 3) (.t 11), none⟩]) (.kl [4, 8, 9, 10, 11] (.ret))))), [.cell true 2 2, .cell true 3 3]⟩
/-- spec.DrawDropClue -/
def fi565 : FI := ⟨.seq (.reg [⟨some 2, .new [.int .i64 0, .nilS], none⟩, ⟨some 3, .mov (.c (.int .i64 0)), none⟩]) (.kl [3] (.seq (.reg [⟨some 5, .mov (.t 0), none⟩, ⟨some 6, .build [.nilS, .int .i64 0, .int .u64 0] [(0, 1, .t 5)], none⟩, ⟨some 7, .box (.t 6), none⟩, ⟨some 4, .mov (.t 7), none⟩]) (.kl [0, 5, 6, 7] (.seq (.reg [⟨some 8, .mov (.t 4), none⟩, ⟨some 9, .call 602 [.t 8], none⟩, ⟨some 10, .mov (.t 4), none⟩, ⟨some 11, .call 63 [.t 10, .c (.int .i64 6)], none⟩, ⟨some 12, .mov (.t 4), none⟩, ⟨some 13, .call 63 [.t 12, .c (.int .i64 9)], none⟩, ⟨some 14, .bin .quo (.t 13) (.c (.int .i64 8)), none⟩, ⟨some 15, .bin .sub (.t 11) (.t 14), none⟩, ⟨none, .store 2 (.t 2) (.t 9), none⟩, ⟨some 3, .mov (.t 15), none⟩]) (.kl [4, 8, 9, 10, 11, 12, 13, 14, 15] (.ret)))))), [.cell true 2 2, .tmp 3]⟩
/-- spec.DrawDoesFit -/
def fi566 : FI := ⟨.seq (.reg [⟨some 2, .new [.int .i64 0, .int .i64 0, .int .i64 0], none⟩, ⟨some 3, .mov (.c (.str [])), none⟩]) (.kl [3] (.seq (.reg [⟨some 8, .mov (.t 0), none⟩, ⟨some 9, .build [.nilS, .int .i64 0, .int .u64 0] [(0, 1, .t 8)], none⟩, ⟨some 10, .box (.t 9), none⟩, ⟨some 4, .mov (.t 10), none⟩]) (.kl [0, 8, 9, 10] (.seq (.reg [⟨some 11, .mov (.t 4), none⟩, ⟨some 12, .call 99 [.t 11, .c (.int .i64 6)], none⟩, ⟨some 5, .mov (.t 12), none⟩]) (.kl [11, 12] (.seq (.seq (.reg [⟨some 14, .mov (.t 5), none⟩, ⟨some 15, .mov (.t 4), none⟩, ⟨some 16, .call 63 [.t 15, .c (.int .i64 10000)], none⟩, ⟨some 17, .call 541 [.t 14, .c (.int .i64 1), .t 16], none⟩, ⟨some 13, .mov (.t 17), none⟩, ⟨some 18, .prj 0 (.t 13), none⟩, ⟨some 19, .prj 1 (.t 13), none⟩, ⟨some 6, .new [.int .i64 0, .nilS], none⟩, ⟨none, .store 2 (.t 6) (.t 18), none⟩, ⟨some 7, .mov (.t 19), none⟩]) (.kl [13, 14, 15, 16, 17, 18, 19] (.seq (.reg [⟨some 20, .mov (.t 7), none⟩, ⟨some 21, .mov (.t 20), none⟩, ⟨some 22, .mov (.t 4), some (21, true)⟩, ⟨some 23, .call 64 [.t 22, .c (.int .i64 3)], some (21, true)⟩, ⟨some 24, .pick (.t 21) (.t 23) (.c (.bool false)), none⟩]) (.kl [7, 20, 21, 22, 23] (.cond (.t 24) (.kl [4, 24] (.seq (.reg [⟨some 25, .faddr 1 1 (.t 6), none⟩, ⟨some 26, .load false 1 (.t 25), none⟩, ⟨some 27, .iaddr 3 (.t 26) (.c (.int .i64 0)), none⟩, ⟨some 28, .load true 3 (.t 27), none⟩, ⟨some 29, .mov (.t 5), none⟩, ⟨none, .store 3 (.t 2) (.t 28), none⟩, ⟨some 3, .mov (.t 29), none⟩]) (.kl [5, 6, 25, 26, 27, 28, 29] (.ret)))) (.skip)))))) (.kl [6, 24] (.seq (.reg [⟨some 30, .mov (.t 4), none⟩, ⟨some 31, .call 603 [.t 30], none⟩, ⟨some 32, .mov (.t 5), none⟩, ⟨none, .store 3 (.t 2) (.t 31), none⟩, ⟨some 3, .mov (.t 32), none⟩]) (.kl [4, 5, 30, 31, 32] (.ret)))))))))), [.cell true 3 2, .tmp 3]⟩
/-- spec.DrawIsClue -/
def fi567 : FI := ⟨.seq (.reg [⟨some 2, .mov (.c (.int .i64 0)), none⟩, ⟨some 3, .new [.int .i64 0, .int .i64 0, .int .i64 0], none⟩]) (.kl [2] (.seq (.reg [⟨some 5, .mov (.t 0), none⟩, ⟨some 6, .build [.nilS, .int .i64 0, .int .u64 0] [(0, 1, .t 5)], none⟩, ⟨some 7, .box (.t 6), none⟩, ⟨some 4, .mov (.t 7), none⟩]) (.kl [0, 5, 6, 7] (.seq (.seq (.reg [⟨some 8, .mov (.t 4), none⟩, ⟨some 9, .call 64 [.t 8, .c (.int .i64 8)], none⟩]) (.kl [8] (.cond (.t 9) (.kl [9] (.seq (.reg [⟨some 10, .mov (.t 4), none⟩, ⟨some 11, .lit 1 5 [.int .i64 0, .int .i64 0, .int .i64 0, .int .i64 0, .int .i64 0] [(0, 1, .c (.int .i64 0)), (1, 1, .c (.int .i64 1)), (2, 1, .c (.int .i64 5)), (3, 1, .c (.int .i64 6)), (4, 1, .c (.int .i64 (-1)))], none⟩, ⟨some 12, .call 62 [.t 10, .t 11], none⟩, ⟨some 13, .mov (.t 4), none⟩, ⟨some 14, .call 63 [.t 13, .c (.int .i64 7)], none⟩, ⟨some 15, .mov (.t 4), none⟩, ⟨some 16, .call 63 [.t 15, .c (.int .i64 9)], none⟩, ⟨some 17, .bin .quo (.t 16) (.c (.int .i64 8)), none⟩, ⟨some 18, .bin .sub (.t 14) (.t 17), none⟩, ⟨some 19, .mov (.t 4), none⟩, ⟨some 20, .lit 1 7 [.int .i64 0, .int .i64 0, .int .i64 0, .int .i64 0, .int .i64 0, .int .i64 0, .int .i64 0] [(0, 1, .c (.int .i64 (-1))), (1, 1, .c (.int .i64 0)), (2, 1, .c (.int .i64 4)), (3, 1, .c (.int .i64 5)), (4, 1, .c (.int .i64 10)), (5, 1, .c (.int .i64 11)), (6, 1, .c (.int .i64 4611686018427387904))], none⟩, ⟨some 21, .call 62 [.t 19, .t 20], none⟩, ⟨some 22, .mov (.t 4), none⟩, ⟨some 23, .lit 1 4 [.int .i64 0, .int .i64 0, .int .i64 0, .int .i64 0] [(0, 1, .c (.int .i64 (-1))), (1, 1, .c (.int .i64 0)), (2, 1, .c (.int .i64 2)), (3, 1, .c (.int .i64 3))], none⟩, ⟨some 24, .call 62 [.t 22, .t 23], none⟩, ⟨some 25, .build [.int .i64 0, .int .i64 0, .int .i64 0] [(0, 1, .t 18), (1, 1, .t 21), (2, 1, .t 24)], none⟩, ⟨some 2, .mov (.t 12), none⟩, ⟨none, .store 3 (.t 3) (.t 25), none⟩]) (.kl [4, 10, 11, 12, 13, 14, 15, 16, 17, 18, 19, 20, 21, 22, 23, 24, 25] (.ret)))) (.skip)))) (.kl [9] (.seq (.reg [⟨some 26, .mov (.t 4), none⟩, ⟨some 27, .call 63 [.t 26, .c (.int .i64 5)], none⟩, ⟨some 28, .bin .add (.c (.int .i64 1)) (.t 27), none⟩, ⟨some 29, .mov (.t 4), none⟩, ⟨some 30, .call 603 [.t 29], none⟩, ⟨some 2, .mov (.t 28), none⟩, ⟨none, .store 3 (.t 3) (.t 30), none⟩]) (.kl [4, 26, 27, 28, 29, 30] (.ret)))))))), [.tmp 2, .cell true 3 3]⟩
/-- impl.isLineOf -/
def fi82 : FI := ⟨.seq (.reg [⟨some 4, .mov (.c (.bool false)), none⟩]) (.kl [4] (.seq (.reg [⟨some 5, .mov (.t 0), none⟩, ⟨some 6, .lenS (.t 5), none⟩, ⟨some 7, .mov (.t 1), none⟩, ⟨some 8, .call 74 [.t 6, .c (.int .i64 1), .t 7], none⟩, ⟨some 9, .mov (.t 8), none⟩, ⟨some 10, .mov (.t 0), some (9, true)⟩, ⟨some 11, .call 111 [.t 10, .c (.str [46, 70, 84])], some (9, true)⟩, ⟨some 12, .bin .eql (.t 11) (.c (.str [])), some (9, true)⟩, ⟨some 13, .pick (.t 9) (.t 12) (.c (.bool false)), none⟩, ⟨some 4, .mov (.t 13), none⟩]) (.kl [0, 1, 5, 6, 7, 8, 9, 10, 11, 12, 13] (.ret)))), [.tmp 4]⟩
/-- impl.within -/
def fi74 : FI := ⟨.seq (.reg [⟨some 6, .mov (.c (.bool false)), none⟩]) (.kl [6] (.seq (.reg [⟨some 7, .mov (.t 1), none⟩, ⟨some 8, .mov (.t 0), none⟩, ⟨some 9, .bin .leq (.t 7) (.t 8), none⟩, ⟨some 10, .mov (.t 9), none⟩, ⟨some 11, .mov (.t 0), some (10, true)⟩, ⟨some 12, .mov (.t 2), some (10, true)⟩, ⟨some 13, .bin .leq (.t 11) (.t 12), some (10, true)⟩, ⟨some 14, .pick (.t 10) (.t 13) (.c (.bool false)), none⟩, ⟨some 6, .mov (.t 14), none⟩]) (.kl [0, 1, 2, 7, 8, 9, 10, 11, 12, 13, 14] (.ret)))), [.tmp 6]⟩
/-- impl.MakePuzzle$1 -/
def fi593 : FI := ⟨.seq (.reg [⟨some 1, .mov (.c (.int .i64 0)), none⟩]) (.kl [1] (.seq (.reg [⟨some 2, .load false 1 (.t 0), none⟩, ⟨some 3, .bin .mul (.t 2) (.c (.int .i64 167)), none⟩, ⟨some 4, .bin .add (.t 3) (.c (.int .i64 2281)), none⟩, ⟨some 5, .bin .rem (.t 4) (.c (.int .i64 10007)), none⟩, ⟨none, .store 1 (.t 0) (.t 5), none⟩]) (.kl [2, 3, 4, 5] (.seq (.reg [⟨some 6, .load false 1 (.t 0), none⟩, ⟨some 1, .mov (.t 6), none⟩]) (.kl [0, 6] (.ret)))))), [.tmp 1]⟩
/-- impl.clueOf -/
def fi187 : FI := ⟨.seq (.reg [⟨some 6, .new [.int .i64 0, .int .i64 0, .int .i64 0], none⟩]) (.seq (.reg [⟨some 11, .mov (.t 2), none⟩, ⟨some 12, .call 189 [.t 11], none⟩, ⟨some 10, .mov (.t 12), none⟩, ⟨some 13, .prj 0 (.t 10), none⟩, ⟨some 14, .prj 1 (.t 10), none⟩, ⟨some 15, .prj 2 (.t 10), none⟩, ⟨some 7, .mov (.t 13), none⟩, ⟨some 8, .mov (.t 14), none⟩, ⟨some 9, .mov (.t 15), none⟩]) (.kl [8, 10, 11, 12, 13, 14, 15] (.seq (.seq (.reg [⟨some 16, .mov (.t 0), none⟩]) (.kl [0] (.blk 0 (.seq (.reg [⟨some 18, .bin .eql (.t 16) (.c (.int .i64 0)), none⟩, ⟨some 17, .mov (.t 18), none⟩]) (.kl [18] (.cond (.t 17) (.kl [7, 9, 16, 17] (.seq (.reg [⟨some 19, .mov (.t 1), none⟩, ⟨some 20, .mov (.t 2), none⟩, ⟨some 21, .mov (.t 1), none⟩, ⟨some 22, .idxS (.t 20) (.t 21), none⟩, ⟨some 23, .call 190 [.c (.str [46, 70, 84]), .t 22], none⟩, ⟨some 24, .build [.int .i64 0, .int .i64 0, .int .i64 0] [(0, 1, .c (.int .i64 0)), (1, 1, .t 19), (2, 1, .t 23)], none⟩, ⟨none, .store 3 (.t 6) (.t 24), none⟩]) (.kl [1, 2, 19, 20, 21, 22, 23, 24] (.ret)))) (.kl [1, 17] (.seq (.reg [⟨some 26, .bin .eql (.t 16) (.c (.int .i64 1)), none⟩, ⟨some 25, .mov (.t 26), none⟩]) (.kl [26] (.cond (.t 25) (.kl [2, 9, 16, 25] (.seq (.reg [⟨some 27, .mov (.t 7), none⟩, ⟨some 28, .build [.int .i64 0, .int .i64 0, .int .i64 0] [(0, 1, .c (.int .i64 1)), (1, 1, .t 27), (2, 1, .c (.int .i64 0))], none⟩, ⟨none, .store 3 (.t 6) (.t 28), none⟩]) (.kl [7, 27, 28] (.ret)))) (.kl [7, 25] (.seq (.reg [⟨some 30, .bin .eql (.t 16) (.c (.int .i64 2)), none⟩, ⟨some 29, .mov (.t 30), none⟩]) (.kl [30] (.cond (.t 29) (.kl [2, 16, 29] (.seq (.reg [⟨some 31, .mov (.t 9), none⟩, ⟨some 32, .build [.int .i64 0, .int .i64 0, .int .i64 0] [(0, 1, .c (.int .i64 2)), (1, 1, .t 31), (2, 1, .c (.int .i64 0))], none⟩, ⟨none, .store 3 (.t 6) (.t 32), none⟩]) (.kl [9, 31, 32] (.ret)))) (.kl [9, 29] (.seq (.reg [⟨some 34, .bin .eql (.t 16) (.c (.int .i64 3)), none⟩, ⟨some 33, .mov (.t 34), none⟩]) (.kl [34] (.cond (.t 33) (.kl [16, 33] (.seq (.reg [⟨some 35, .mov (.t 2), none⟩, ⟨some 36, .call 105 [.t 35, .c (.str [84, 70])], none⟩, ⟨some 37, .lenV (.t 36), none⟩, ⟨some 38, .build [.int .i64 0, .int .i64 0, .int .i64 0] [(0, 1, .c (.int .i64 3)), (1, 1, .t 37), (2, 1, .c (.int .i64 0))], none⟩, ⟨none, .store 3 (.t 6) (.t 38), none⟩]) (.kl [2, 35, 36, 37, 38] (.ret)))) (.kl [33] (.seq (.reg [⟨some 40, .bin .eql (.t 16) (.c (.int .i64 4)), none⟩, ⟨some 39, .mov (.t 40), none⟩]) (.kl [16, 40] (.cond (.t 39) (.kl [39] (.seq (.reg [⟨some 41, .mov (.t 2), none⟩, ⟨some 42, .call 191 [.t 41], none⟩, ⟨some 43, .build [.int .i64 0, .int .i64 0, .int .i64 0] [(0, 1, .c (.int .i64 4)), (1, 1, .t 42), (2, 1, .c (.int .i64 0))], none⟩, ⟨none, .store 3 (.t 6) (.t 43), none⟩]) (.kl [2, 41, 42, 43] (.ret)))) (.skip))))))))))))))))))))))) (.kl [39] (.seq (.reg [⟨some 44, .call 192 [], none⟩, ⟨some 45, .mov (.t 2), none⟩, ⟨some 46, .call 193 [.t 44, .t 45], none⟩, ⟨some 47, .call 194 [.c (.str [49, 50, 70, 84]), .t 46], none⟩, ⟨some 48, .build [.int .i64 0, .int .i64 0, .int .i64 0] [(0, 1, .c (.int .i64 5)), (1, 1, .t 47), (2, 1, .c (.int .i64 0))], none⟩, ⟨none, .store 3 (.t 6) (.t 48), none⟩]) (.kl [2, 44, 45, 46, 47, 48] (.ret))))))), [.cell true 3 6]⟩
/-- spec.pzLine -/
def fi594 : FI := ⟨.seq (.reg [⟨some 2, .mov (.c (.bool false)), none⟩]) (.kl [2] (.seq (.reg [⟨some 3, .mov (.t 0), none⟩, ⟨some 4, .call 104 [.t 3], none⟩, ⟨some 5, .mov (.t 4), none⟩, ⟨some 6, .mov (.t 0), some (5, true)⟩, ⟨some 7, .lenS (.t 6), some (5, true)⟩, ⟨some 8, .bin .leq (.t 7) (.c (.int .i64 5)), some (5, true)⟩, ⟨some 9, .pick (.t 5) (.t 8) (.c (.bool false)), none⟩, ⟨some 2, .mov (.t 9), none⟩]) (.kl [0, 3, 4, 5, 6, 7, 8, 9] (.ret)))), [.tmp 2]⟩
/-- spec.l1In -/
def fi77 : FI := ⟨.seq (.reg [⟨some 6, .mov (.c (.bool false)), none⟩]) (.kl [6] (.seq (.reg [⟨some 7, .mov (.t 0), none⟩, ⟨some 8, .mov (.t 1), none⟩, ⟨some 9, .bin .geq (.t 7) (.t 8), none⟩, ⟨some 10, .mov (.t 9), none⟩, ⟨some 11, .mov (.t 0), some (10, true)⟩, ⟨some 12, .mov (.t 2), some (10, true)⟩, ⟨some 13, .bin .leq (.t 11) (.t 12), some (10, true)⟩, ⟨some 14, .pick (.t 10) (.t 13) (.c (.bool false)), none⟩, ⟨some 6, .mov (.t 14), none⟩]) (.kl [0, 1, 2, 7, 8, 9, 10, 11, 12, 13, 14] (.ret)))), [.tmp 6]⟩
/-- spec.pzNext -/
def fi595 : FI := ⟨.seq (.reg [⟨some 2, .mov (.c (.int .i64 0)), none⟩]) (.kl [2] (.seq (.reg [⟨some 3, .mov (.t 0), none⟩, ⟨some 4, .bin .mul (.c (.int .i64 167)) (.t 3), none⟩, ⟨some 5, .bin .add (.t 4) (.c (.int .i64 2281)), none⟩, ⟨some 6, .bin .rem (.t 5) (.c (.int .i64 10007)), none⟩, ⟨some 2, .mov (.t 6), none⟩]) (.kl [0, 3, 4, 5, 6] (.ret)))), [.tmp 2]⟩
/-- spec.pzOf -/
def fi596 : FI := ⟨.seq (.reg [⟨some 6, .new [.int .i64 0, .int .i64 0, .int .i64 0], none⟩]) (.seq (.seq (.reg [⟨some 7, .mov (.t 0), none⟩, ⟨some 8, .bin .eql (.t 7) (.c (.int .i64 0)), none⟩]) (.kl [7] (.cond (.t 8) (.kl [0, 8] (.seq (.reg [⟨some 9, .mov (.t 1), none⟩, ⟨some 10, .mov (.t 1), none⟩, ⟨some 11, .mov (.t 2), none⟩, ⟨some 12, .call 188 [.c (.int .i64 0), .t 10, .t 11], none⟩, ⟨some 13, .build [.int .i64 0, .int .i64 0, .int .i64 0] [(1, 1, .t 9), (2, 1, .t 12)], none⟩, ⟨none, .store 3 (.t 6) (.t 13), none⟩]) (.kl [1, 2, 9, 10, 11, 12, 13] (.ret)))) (.skip)))) (.kl [1, 8] (.seq (.reg [⟨some 14, .mov (.t 0), none⟩, ⟨some 15, .mov (.t 0), none⟩, ⟨some 16, .mov (.t 2), none⟩, ⟨some 17, .call 188 [.t 15, .c (.int .i64 0), .t 16], none⟩, ⟨some 18, .build [.int .i64 0, .int .i64 0, .int .i64 0] [(0, 1, .t 14), (1, 1, .t 17)], none⟩, ⟨none, .store 3 (.t 6) (.t 18), none⟩]) (.kl [0, 2, 14, 15, 16, 17, 18] (.ret))))), [.cell true 3 6]⟩
-- lp167_0 HEAD [5, 10, 11, 12] | exit 0: [5]
/-- impl.solve -/
def lb167_0 : C := .kl [19] (.seq (.reg [⟨some 13, .bin .lss (.t 12) (.t 11), none⟩]) (.seq (.cond (.t 13) (.skip) (.kl [10, 11, 12, 13] (.exit 0))) (.kl [13] (.seq (.blk 1 (.seq (.reg [⟨some 14, .iaddr 3 (.t 10) (.t 12), none⟩, ⟨some 15, .load true 3 (.t 14), none⟩, ⟨some 7, .new [.int .i64 0, .int .i64 0, .int .i64 0], none⟩, ⟨none, .store 3 (.t 7) (.t 15), none⟩]) (.kl [14, 15] (.reg [⟨some 16, .mov (.t 5), none⟩, ⟨some 17, .mkfn 179 [.t 7], none⟩, ⟨some 18, .call 180 [.t 16, .t 17], none⟩, ⟨some 5, .mov (.t 18), none⟩])))) (.kl [7, 16, 17, 18] (.reg [⟨some 19, .bin .add (.t 12) (.c (.int .i64 1)), none⟩, ⟨some 12, .mov (.t 19), none⟩]))))))
def lp167_0 : C := lb167_0
def fi167 : FI := ⟨.seq (.reg [⟨some 4, .mov (.c (.nilS)), none⟩]) (.kl [4] (.seq (.reg [⟨some 8, .mov (.t 0), none⟩, ⟨some 9, .call 178 [.t 8], none⟩, ⟨some 5, .mov (.t 9), none⟩]) (.kl [0, 8, 9] (.seq (.seq (.reg [⟨some 10, .mov (.t 1), none⟩, ⟨some 11, .lenV (.t 10), none⟩, ⟨some 12, .mov (.c (.int .i64 0)), none⟩]) (.kl [1] (.blk 0 (.loop lp167_0)))) (.seq (.reg [⟨some 20, .mov (.t 5), none⟩, ⟨some 4, .mov (.t 20), none⟩]) (.kl [5, 20] (.ret))))))), [.tmp 4]⟩
/-- impl.IsLine -/
def fi106 : FI := ⟨.seq (.reg [⟨some 2, .mov (.c (.bool false)), none⟩]) (.kl [2] (.seq (.reg [⟨some 3, .mov (.t 0), none⟩, ⟨some 4, .call 82 [.t 3, .c (.int .i64 12)], none⟩, ⟨some 2, .mov (.t 4), none⟩]) (.kl [0, 3, 4] (.ret)))), [.tmp 2]⟩
-- lp191_0 HEAD [0, 3, 4, 7, 8] | exit 0: [3]
/-- impl.pairs -/
def lb191_0 : C := .kl [23] (.seq (.reg [⟨some 9, .bin .lss (.t 8) (.t 7), none⟩]) (.seq (.cond (.t 9) (.skip) (.kl [0, 4, 7, 8, 9] (.exit 0))) (.kl [9] (.seq (.blk 1 (.seq (.reg [⟨some 10, .mov (.t 8), none⟩, ⟨some 5, .mov (.t 10), none⟩]) (.kl [10] (.seq (.reg [⟨some 11, .mov (.t 0), none⟩, ⟨some 12, .mov (.t 5), none⟩, ⟨some 13, .idxS (.t 11) (.t 12), none⟩]) (.kl [5, 11, 12] (.blk 2 (.seq (.reg [⟨some 15, .bin .eql (.t 13) (.c (.int .u8 84)), none⟩, ⟨some 14, .mov (.t 15), none⟩]) (.kl [15] (.cond (.t 14) (.kl [13, 14] (.reg [⟨some 16, .mov (.t 4), none⟩, ⟨some 17, .bin .add (.t 16) (.c (.int .i64 1)), none⟩, ⟨some 4, .mov (.t 17), none⟩])) (.kl [14] (.seq (.reg [⟨some 19, .bin .eql (.t 13) (.c (.int .u8 70)), none⟩, ⟨some 18, .mov (.t 19), none⟩]) (.kl [13, 19] (.cond (.t 18) (.kl [18] (.reg [⟨some 20, .mov (.t 3), none⟩, ⟨some 21, .mov (.t 4), none⟩, ⟨some 22, .bin .add (.t 20) (.t 21), none⟩, ⟨some 3, .mov (.t 22), none⟩])) (.skip)))))))))))))) (.kl [16, 17, 18, 20, 21, 22] (.reg [⟨some 23, .bin .add (.t 8) (.c (.int .i64 1)), none⟩, ⟨some 8, .mov (.t 23), none⟩]))))))
def lp191_0 : C := lb191_0
def fi191 : FI := ⟨.seq (.reg [⟨some 2, .mov (.c (.int .i64 0)), none⟩]) (.kl [2] (.seq (.reg [⟨some 3, .mov (.c (.int .i64 0)), none⟩, ⟨some 4, .mov (.c (.int .i64 0)), none⟩]) (.seq (.seq (.reg [⟨some 6, .mov (.t 0), none⟩, ⟨some 7, .lenS (.t 6), none⟩, ⟨some 8, .mov (.c (.int .i64 0)), none⟩]) (.kl [6] (.blk 0 (.loop lp191_0)))) (.seq (.reg [⟨some 24, .mov (.t 3), none⟩, ⟨some 2, .mov (.t 24), none⟩]) (.kl [3, 24] (.ret)))))), [.tmp 2]⟩
/-- (impl.Clue).fits -/
def fi186 : FI := ⟨.seq (.reg [⟨some 2, .box (.t 0), none⟩, ⟨some 4, .mov (.c (.bool false)), none⟩]) (.kl [0, 4] (.seq (.drw [⟨some 5, .faddr 0 1 (.t 2), none⟩, ⟨some 6, .load false 1 (.t 5), none⟩, ⟨some 7, .faddr 1 1 (.t 2), none⟩, ⟨some 8, .load false 1 (.t 7), none⟩, ⟨some 9, .mov (.t 1), none⟩, ⟨some 10, .call 187 [.t 6, .t 8, .t 9], none⟩, ⟨some 11, .load true 3 (.t 2), none⟩, ⟨some 12, .aeq false [0, 0, 0] (.t 10) (.t 11), none⟩, ⟨some 4, .mov (.t 12), none⟩] [(6, 5)]) (.kl [1, 2, 5, 6, 7, 8, 9, 10, 11, 12] (.ret)))), [.tmp 4]⟩
/-- impl.movesIn -/
def fi59 : FI := ⟨.seq (.reg [⟨some 4, .mov (.c (.nilS)), none⟩, ⟨some 5, .mov (.c (.bool false)), none⟩]) (.kl [4, 5] (.seq (.seq (.reg [⟨some 6, .mov (.t 0), none⟩, ⟨some 7, .call 106 [.t 6], none⟩, ⟨some 8, .un .not (.t 7), none⟩]) (.kl [6, 7] (.cond (.t 8) (.kl [0, 1, 8] (.seq (.reg [⟨some 4, .mov (.c (.nilS)), none⟩, ⟨some 5, .mov (.c (.bool false)), none⟩]) (.ret))) (.skip)))) (.kl [8] (.seq (.reg [⟨some 9, .mov (.t 0), none⟩, ⟨some 10, .mov (.t 1), none⟩, ⟨some 11, .call 105 [.t 9, .t 10], none⟩, ⟨some 4, .mov (.t 11), none⟩, ⟨some 5, .mov (.c (.bool true)), none⟩]) (.kl [0, 1, 9, 10, 11] (.ret)))))), [.tmp 4, .tmp 5]⟩
/-- slices.ContainsFunc[[]impl.Clue,impl.Clue] -/
def fi177 : FI := ⟨.seq (.reg [⟨some 4, .mov (.c (.bool false)), none⟩]) (.kl [4] (.seq (.reg [⟨some 5, .mov (.t 0), none⟩, ⟨some 6, .mov (.t 1), none⟩, ⟨some 7, .call 182 [.t 5, .t 6], none⟩, ⟨some 8, .bin .geq (.t 7) (.c (.int .i64 0)), none⟩, ⟨some 4, .mov (.t 8), none⟩]) (.kl [0, 1, 5, 6, 7, 8] (.ret)))), [.tmp 4]⟩
/-- impl.IsPuzzle$1 -/
def fi176 : FI := ⟨.seq (.reg [⟨some 2, .box (.t 0), none⟩, ⟨some 3, .mov (.c (.bool false)), none⟩]) (.kl [0, 3] (.seq (.reg [⟨some 4, .faddr 0 1 (.t 1), none⟩, ⟨some 5, .load false 1 (.t 4), none⟩, ⟨some 6, .load true 3 (.t 2), none⟩, ⟨some 7, .call 183 [.t 5, .t 6], none⟩, ⟨some 8, .un .not (.t 7), none⟩, ⟨some 3, .mov (.t 8), none⟩]) (.kl [1, 2, 4, 5, 6, 7, 8] (.ret)))), [.tmp 3]⟩
/-- slices.Clone[[]impl.Clue,impl.Clue] -/
def fi218 : FI := ⟨.seq (.reg [⟨some 2, .mov (.c (.nilS)), none⟩]) (.kl [2] (.seq (.seq (.reg [⟨some 3, .mov (.t 0), none⟩, ⟨some 4, .niq false 0 (.t 3), none⟩]) (.kl [3] (.cond (.t 4) (.kl [0, 4] (.seq (.reg [⟨some 2, .mov (.c (.nilS)), none⟩]) (.ret))) (.skip)))) (.kl [4] (.seq (.reg [⟨some 5, .lit0, none⟩, ⟨some 6, .mov (.t 0), none⟩, ⟨some 7, .app 3 (.t 5) (.t 6), none⟩, ⟨some 2, .mov (.t 7), none⟩]) (.kl [0, 5, 6, 7] (.ret)))))), [.tmp 2]⟩
/-- impl.without -/
def fi217 : FI := ⟨.seq (.reg [⟨some 4, .mov (.c (.nilS)), none⟩]) (.kl [4] (.seq (.reg [⟨some 5, .mov (.t 0), none⟩, ⟨some 6, .call 218 [.t 5], none⟩, ⟨some 7, .mov (.t 1), none⟩, ⟨some 8, .mov (.t 1), none⟩, ⟨some 9, .bin .add (.t 8) (.c (.int .i64 1)), none⟩, ⟨some 10, .call 220 [.t 6, .t 7, .t 9], none⟩, ⟨some 4, .mov (.t 10), none⟩]) (.kl [0, 1, 5, 6, 7, 8, 9, 10] (.ret)))), [.tmp 4]⟩
-- lp160_0 HEAD [1, 16, 17, 18] | exit 0: [] | ret: [2]
/-- spec.pzGood -/
def lb160_0 : C := .kl [27] (.seq (.reg [⟨some 19, .bin .lss (.t 18) (.t 17), none⟩]) (.seq (.cond (.t 19) (.skip) (.kl [1, 16, 17, 18, 19] (.exit 0))) (.kl [19] (.seq (.blk 1 (.seq (.reg [⟨some 20, .iaddr 3 (.t 16) (.t 18), none⟩, ⟨some 21, .load true 3 (.t 20), none⟩, ⟨some 4, .new [.int .i64 0, .int .i64 0, .int .i64 0], none⟩, ⟨none, .store 3 (.t 4) (.t 21), none⟩]) (.kl [20, 21] (.seq (.reg [⟨some 22, .faddr 0 1 (.t 1), none⟩, ⟨some 23, .load false 1 (.t 22), none⟩, ⟨some 24, .load true 3 (.t 4), none⟩, ⟨some 25, .call 172 [.t 23, .t 24], none⟩, ⟨some 26, .un .not (.t 25), none⟩]) (.kl [4, 22, 23, 24, 25] (.cond (.t 26) (.kl [1, 16, 17, 18, 26] (.seq (.reg [⟨some 2, .mov (.c (.bool false)), none⟩]) (.ret))) (.skip))))))) (.kl [26] (.reg [⟨some 27, .bin .add (.t 18) (.c (.int .i64 1)), none⟩, ⟨some 18, .mov (.t 27), none⟩]))))))
def lp160_0 : C := lb160_0
def fi160 : FI := ⟨.seq (.reg [⟨some 1, .box (.t 0), none⟩, ⟨some 2, .mov (.c (.bool false)), none⟩]) (.kl [0, 2] (.seq (.seq (.reg [⟨some 5, .faddr 0 1 (.t 1), none⟩, ⟨some 6, .load false 1 (.t 5), none⟩, ⟨some 7, .call 171 [.t 6], none⟩, ⟨some 8, .un .not (.t 7), none⟩, ⟨some 9, .mov (.t 8), none⟩, ⟨some 10, .faddr 1 1 (.t 1), some (9, false)⟩, ⟨some 11, .load false 1 (.t 10), some (9, false)⟩, ⟨some 12, .lenV (.t 11), some (9, false)⟩, ⟨some 13, .bin .gtr (.t 12) (.c (.int .i64 6)), some (9, false)⟩, ⟨some 14, .pick (.t 9) (.c (.bool true)) (.t 13), none⟩]) (.kl [5, 6, 7, 8, 9, 10, 11, 12, 13] (.cond (.t 14) (.kl [1, 14] (.seq (.reg [⟨some 2, .mov (.c (.bool false)), none⟩]) (.ret))) (.skip)))) (.kl [14] (.seq (.seq (.reg [⟨some 15, .faddr 1 1 (.t 1), none⟩, ⟨some 16, .load false 1 (.t 15), none⟩, ⟨some 17, .lenV (.t 16), none⟩, ⟨some 18, .mov (.c (.int .i64 0)), none⟩]) (.kl [15] (.blk 0 (.loop lp160_0)))) (.seq (.reg [⟨some 2, .mov (.c (.bool true)), none⟩]) (.ret)))))), [.tmp 2]⟩
/-- spec.pzSolved -/
def fi165 : FI := ⟨.seq (.reg [⟨some 4, .mov (.c (.bool false)), none⟩]) (.kl [4] (.seq (.reg [⟨some 5, .mov (.t 0), none⟩, ⟨some 6, .mov (.t 1), none⟩, ⟨some 7, .call 161 [.t 5, .t 6], none⟩, ⟨some 8, .lenV (.t 7), none⟩, ⟨some 9, .bin .eql (.t 8) (.c (.int .i64 1)), none⟩, ⟨some 4, .mov (.t 9), none⟩]) (.kl [0, 1, 5, 6, 7, 8, 9] (.ret)))), [.tmp 4]⟩
/-- spec.pzWithout -/
def fi216 : FI := ⟨.seq (.reg [⟨some 4, .mov (.c (.nilS)), none⟩]) (.kl [4] (.seq (.drw [⟨some 5, .lit0, none⟩, ⟨some 6, .mov (.t 0), none⟩, ⟨some 7, .mov (.t 1), none⟩, ⟨some 8, .sub 3 (.t 6) none (some (.t 7)), none⟩, ⟨some 9, .app 3 (.t 5) (.t 8), none⟩, ⟨some 10, .mov (.t 0), none⟩, ⟨some 11, .mov (.t 1), none⟩, ⟨some 12, .bin .add (.t 11) (.c (.int .i64 1)), none⟩, ⟨some 13, .sub 3 (.t 10) (some (.t 12)) none, none⟩, ⟨some 14, .app 3 (.t 9) (.t 13), none⟩, ⟨some 4, .mov (.t 14), none⟩] []) (.kl [0, 1, 5, 6, 7, 8, 9, 10, 11, 12, 13, 14] (.ret)))), [.tmp 4]⟩
/-- impl.CountSolutions -/
def fi138 : FI := ⟨.seq (.reg [⟨some 1, .box (.t 0), none⟩, ⟨some 2, .mov (.c (.int .i64 0)), none⟩, ⟨some 3, .mov (.c (.bool false)), none⟩]) (.kl [0, 2, 3] (.seq (.reg [⟨some 7, .load true 2 (.t 1), none⟩, ⟨some 8, .call 163 [.t 7], none⟩, ⟨some 6, .mov (.t 8), none⟩, ⟨some 9, .prj 0 (.t 6), none⟩, ⟨some 10, .prj 1 (.t 6), none⟩, ⟨some 4, .mov (.t 9), none⟩, ⟨some 5, .mov (.t 10), none⟩]) (.kl [1, 6, 7, 8, 9, 10] (.seq (.reg [⟨some 11, .mov (.t 4), none⟩, ⟨some 12, .lenV (.t 11), none⟩, ⟨some 13, .mov (.t 5), none⟩, ⟨some 2, .mov (.t 12), none⟩, ⟨some 3, .mov (.t 13), none⟩]) (.kl [4, 5, 11, 12, 13] (.ret)))))), [.tmp 2, .tmp 3]⟩
/-- spec.pzClue -/
def fi172 : FI := ⟨.seq (.reg [⟨some 3, .box (.t 1), none⟩, ⟨some 4, .mov (.c (.bool false)), none⟩]) (.kl [1, 4] (.seq (.seq (.reg [⟨some 5, .faddr 0 1 (.t 3), none⟩, ⟨some 6, .load false 1 (.t 5), none⟩, ⟨some 7, .bin .eql (.t 6) (.c (.int .i64 0)), none⟩]) (.kl [5, 6] (.cond (.t 7) (.kl [7] (.seq (.reg [⟨some 8, .faddr 1 1 (.t 3), none⟩, ⟨some 9, .load false 1 (.t 8), none⟩, ⟨some 10, .mov (.t 0), none⟩, ⟨some 11, .bin .sub (.t 10) (.c (.int .i64 1)), none⟩, ⟨some 12, .call 77 [.t 9, .c (.int .i64 0), .t 11], none⟩, ⟨some 13, .mov (.t 12), none⟩, ⟨some 14, .faddr 2 1 (.t 3), some (13, true)⟩, ⟨some 15, .load false 1 (.t 14), some (13, true)⟩, ⟨some 16, .call 77 [.t 15, .c (.int .i64 0), .c (.int .i64 2)], some (13, true)⟩, ⟨some 17, .pick (.t 13) (.t 16) (.c (.bool false)), none⟩, ⟨some 4, .mov (.t 17), none⟩]) (.kl [0, 3, 8, 9, 10, 11, 12, 13, 14, 15, 16, 17] (.ret)))) (.skip)))) (.kl [7] (.seq (.seq (.reg [⟨some 18, .faddr 2 1 (.t 3), none⟩, ⟨some 19, .load false 1 (.t 18), none⟩, ⟨some 20, .bin .neq (.t 19) (.c (.int .i64 0)), none⟩]) (.kl [18, 19] (.cond (.t 20) (.kl [0, 3, 20] (.seq (.reg [⟨some 4, .mov (.c (.bool false)), none⟩]) (.ret))) (.skip)))) (.kl [20] (.seq (.seq (.reg [⟨some 21, .faddr 0 1 (.t 3), none⟩, ⟨some 22, .load false 1 (.t 21), none⟩]) (.kl [21] (.blk 0 (.seq (.seq (.reg [⟨some 24, .bin .eql (.t 22) (.c (.int .i64 1)), none⟩, ⟨some 23, .mov (.t 24), none⟩]) (.kl [24] (.cond (.t 23) (.skip) (.kl [23] (.reg [⟨some 25, .bin .eql (.t 22) (.c (.int .i64 2)), none⟩, ⟨some 23, .mov (.t 25), none⟩]))))) (.kl [25] (.cond (.t 23) (.kl [22, 23] (.seq (.reg [⟨some 26, .faddr 1 1 (.t 3), none⟩, ⟨some 27, .load false 1 (.t 26), none⟩, ⟨some 28, .mov (.t 0), none⟩, ⟨some 29, .call 77 [.t 27, .c (.int .i64 0), .t 28], none⟩, ⟨some 4, .mov (.t 29), none⟩]) (.kl [0, 3, 26, 27, 28, 29] (.ret)))) (.kl [23] (.seq (.reg [⟨some 31, .bin .eql (.t 22) (.c (.int .i64 3)), none⟩, ⟨some 30, .mov (.t 31), none⟩]) (.kl [31] (.cond (.t 30) (.kl [22, 30] (.seq (.reg [⟨some 32, .faddr 1 1 (.t 3), none⟩, ⟨some 33, .load false 1 (.t 32), none⟩, ⟨some 34, .mov (.t 0), none⟩, ⟨some 35, .bin .mul (.c (.int .i64 2)) (.t 34), none⟩, ⟨some 36, .call 77 [.t 33, .c (.int .i64 0), .t 35], none⟩, ⟨some 4, .mov (.t 36), none⟩]) (.kl [0, 3, 32, 33, 34, 35, 36] (.ret)))) (.kl [0, 30] (.seq (.reg [⟨some 38, .bin .eql (.t 22) (.c (.int .i64 4)), none⟩, ⟨some 37, .mov (.t 38), none⟩]) (.kl [38] (.cond (.t 37) (.kl [22, 37] (.seq (.reg [⟨some 39, .faddr 1 1 (.t 3), none⟩, ⟨some 40, .load false 1 (.t 39), none⟩, ⟨some 41, .call 77 [.t 40, .c (.int .i64 0), .c (.int .i64 10)], none⟩, ⟨some 4, .mov (.t 41), none⟩]) (.kl [3, 39, 40, 41] (.ret)))) (.kl [37] (.seq (.reg [⟨some 43, .bin .eql (.t 22) (.c (.int .i64 5)), none⟩, ⟨some 42, .mov (.t 43), none⟩]) (.kl [22, 43] (.cond (.t 42) (.kl [42] (.seq (.reg [⟨some 44, .faddr 1 1 (.t 3), none⟩, ⟨some 45, .load false 1 (.t 44), none⟩, ⟨some 46, .call 77 [.t 45, .c (.int .i64 0), .c (.int .i64 3)], none⟩, ⟨some 4, .mov (.t 46), none⟩]) (.kl [3, 44, 45, 46] (.ret)))) (.skip))))))))))))))))))) (.kl [3, 42] (.seq (.reg [⟨some 4, .mov (.c (.bool false)), none⟩]) (.ret))))))))), [.tmp 4]⟩
/-- spec.pzFits -/
def fi181 : FI := ⟨.seq (.reg [⟨some 2, .box (.t 0), none⟩, ⟨some 4, .mov (.c (.bool false)), none⟩]) (.kl [0, 4] (.seq (.seq (.reg [⟨some 5, .faddr 0 1 (.t 2), none⟩, ⟨some 6, .load false 1 (.t 5), none⟩, ⟨some 7, .bin .eql (.t 6) (.c (.int .i64 0)), none⟩]) (.kl [5, 6] (.cond (.t 7) (.kl [7] (.seq (.drw [⟨some 8, .faddr 1 1 (.t 2), none⟩, ⟨some 9, .load false 1 (.t 8), none⟩, ⟨some 10, .mov (.t 1), none⟩, ⟨some 11, .call 188 [.c (.int .i64 0), .t 9, .t 10], none⟩, ⟨some 12, .faddr 2 1 (.t 2), none⟩, ⟨some 13, .load false 1 (.t 12), none⟩, ⟨some 14, .bin .eql (.t 11) (.t 13), none⟩, ⟨some 4, .mov (.t 14), none⟩] [(5, 3)]) (.kl [1, 2, 8, 9, 10, 11, 12, 13, 14] (.ret)))) (.skip)))) (.kl [7] (.seq (.drw [⟨some 15, .faddr 0 1 (.t 2), none⟩, ⟨some 16, .load false 1 (.t 15), none⟩, ⟨some 17, .mov (.t 1), none⟩, ⟨some 18, .call 188 [.t 16, .c (.int .i64 0), .t 17], none⟩, ⟨some 19, .faddr 1 1 (.t 2), none⟩, ⟨some 20, .load false 1 (.t 19), none⟩, ⟨some 21, .bin .eql (.t 18) (.t 20), none⟩, ⟨some 4, .mov (.t 21), none⟩] [(5, 3)]) (.kl [1, 2, 15, 16, 17, 18, 19, 20, 21] (.ret)))))), [.tmp 4]⟩
/-- spec.pzCells -/
def fi171 : FI := ⟨.seq (.reg [⟨some 2, .mov (.c (.bool false)), none⟩]) (.kl [2] (.seq (.reg [⟨some 3, .mov (.t 0), none⟩, ⟨some 4, .call 77 [.t 3, .c (.int .i64 1), .c (.int .i64 5)], none⟩, ⟨some 2, .mov (.t 4), none⟩]) (.kl [0, 3, 4] (.ret)))), [.tmp 2]⟩
/-- impl.newGames -/
def fi192 : FI := ⟨.seq (.reg [⟨some 0, .new [.nilM], none⟩]) (.seq (.reg [⟨some 1, .mkmap, none⟩, ⟨some 2, .build [.nilM] [(0, 1, .t 1)], none⟩, ⟨none, .store 1 (.t 0) (.t 2), none⟩]) (.kl [1, 2] (.ret))), [.cell true 1 0]⟩
/-- (impl.games).outcome -/
def fi193 : FI := ⟨.seq (.reg [⟨some 2, .box (.t 0), none⟩, ⟨some 4, .mov (.c (.str [])), none⟩]) (.kl [0, 4] (.seq (.drw [⟨some 7, .load true 1 (.t 2), none⟩, ⟨some 8, .mov (.t 1), none⟩, ⟨some 9, .call 198 [.t 7, .t 8, .c (.bool true)], none⟩, ⟨some 10, .load true 1 (.t 2), none⟩, ⟨some 11, .mov (.t 1), none⟩, ⟨some 12, .call 198 [.t 10, .t 11, .c (.bool false)], none⟩, ⟨some 5, .mov (.t 9), none⟩, ⟨some 6, .mov (.t 12), none⟩] [(3, 2)]) (.kl [1, 2, 7, 8, 9, 10, 11, 12] (.seq (.blk 0 (.seq (.reg [⟨some 14, .mov (.t 5), none⟩, ⟨some 15, .mov (.t 14), none⟩, ⟨some 16, .mov (.t 6), some (15, true)⟩, ⟨some 17, .pick (.t 15) (.t 16) (.c (.bool false)), none⟩, ⟨some 13, .mov (.t 17), none⟩]) (.kl [14, 15, 16, 17] (.cond (.t 13) (.kl [5, 6, 13] (.seq (.reg [⟨some 4, .mov (.c (.str [49])), none⟩]) (.ret))) (.kl [13] (.seq (.reg [⟨some 19, .mov (.t 5), none⟩, ⟨some 18, .mov (.t 19), none⟩]) (.kl [5, 19] (.cond (.t 18) (.kl [6, 18] (.seq (.reg [⟨some 4, .mov (.c (.str [84])), none⟩]) (.ret))) (.kl [18] (.seq (.reg [⟨some 21, .mov (.t 6), none⟩, ⟨some 20, .mov (.t 21), none⟩]) (.kl [6, 21] (.cond (.t 20) (.kl [20] (.seq (.reg [⟨some 4, .mov (.c (.str [70])), none⟩]) (.ret))) (.skip))))))))))))) (.kl [20] (.seq (.reg [⟨some 4, .mov (.c (.str [50])), none⟩]) (.ret))))))), [.tmp 4]⟩
/-- (impl.games).win -/
def fi198 : FI := ⟨.seq (.reg [⟨some 3, .box (.t 0), none⟩, ⟨some 4, .box (.t 1), none⟩, ⟨some 5, .box (.t 2), none⟩, ⟨some 6, .mov (.c (.bool false)), none⟩]) (.kl [0, 1, 2, 6] (.seq (.drw [⟨some 11, .load false 1 (.t 5), none⟩, ⟨some 12, .call 200 [.t 11], none⟩, ⟨some 13, .load false 1 (.t 4), none⟩, ⟨some 14, .bin .add (.t 12) (.t 13), none⟩, ⟨some 7, .mov (.t 14), none⟩] [(2, 1)]) (.kl [11, 12, 13, 14] (.seq (.seq (.reg [⟨some 16, .faddr 0 1 (.t 3), none⟩, ⟨some 17, .load false 1 (.t 16), none⟩, ⟨some 18, .mov (.t 7), none⟩, ⟨some 19, .look 1 (.bool false) true (.t 17) (.t 18), none⟩, ⟨some 15, .mov (.t 19), none⟩, ⟨some 20, .prj 0 (.t 15), none⟩, ⟨some 21, .prj 1 (.t 15), none⟩, ⟨some 8, .mov (.t 20), none⟩, ⟨some 9, .mov (.t 21), none⟩]) (.kl [15, 16, 17, 18, 19, 20, 21] (.seq (.reg [⟨some 22, .mov (.t 9), none⟩]) (.kl [9] (.cond (.t 22) (.kl [3, 4, 5, 7, 22] (.seq (.reg [⟨some 23, .mov (.t 8), none⟩, ⟨some 6, .mov (.t 23), none⟩]) (.kl [8, 23] (.ret)))) (.skip)))))) (.kl [8, 22] (.seq (.drw [⟨some 24, .load false 1 (.t 4), none⟩, ⟨some 25, .load false 1 (.t 5), none⟩, ⟨some 26, .call 200 [.t 25], none⟩, ⟨some 27, .call 105 [.t 24, .t 26], none⟩, ⟨some 28, .mkfn 201 [.t 3, .t 4, .t 5], none⟩, ⟨some 29, .call 202 [.t 27, .t 28], none⟩, ⟨some 10, .mov (.t 29), none⟩] [(0, 2)]) (.kl [4, 5, 24, 25, 26, 27, 28, 29] (.seq (.reg [⟨some 30, .faddr 0 1 (.t 3), none⟩, ⟨some 31, .load false 1 (.t 30), none⟩, ⟨some 32, .mov (.t 7), none⟩, ⟨some 33, .mov (.t 10), none⟩, ⟨none, .mset 1 (.t 31) (.t 32) (.t 33), none⟩]) (.kl [3, 7, 30, 31, 32, 33] (.seq (.reg [⟨some 34, .mov (.t 10), none⟩, ⟨some 6, .mov (.t 34), none⟩]) (.kl [10, 34] (.ret)))))))))))), [.tmp 6]⟩
-- lp199_0 HEAD [0, 1, 2, 7, 21, 22, 23] | exit 0: [0, 1, 2, 7] | ret: [6]
-- lp199_1 HEAD [0, 1, 2, 7, 10, 39, 40, 41] | exit 2: [0, 7, 10] | exit 4: [0, 1, 2, 7, 10, 39, 40, 41]
-- lp199_2 HEAD [0, 1, 2, 7, 10, 11, 12, 39, 40, 41, 50, 51, 52] | exit 4: [0, 1, 2, 7, 10, 39, 40, 41]
/-- (*spec.gaKnown).win -/
def lb199_2 : C := .kl [67] (.seq (.reg [⟨some 53, .bin .lss (.t 52) (.t 51), none⟩]) (.seq (.cond (.t 53) (.skip) (.kl [11, 12, 50, 51, 52, 53] (.exit 4))) (.kl [53] (.seq (.blk 5 (.seq (.reg [⟨some 54, .iaddr 2 (.t 50) (.t 52), none⟩, ⟨some 55, .load true 2 (.t 54), none⟩, ⟨some 14, .new [.int .i64 0, .int .i64 0], none⟩, ⟨none, .store 2 (.t 14) (.t 55), none⟩]) (.kl [54, 55] (.seq (.reg [⟨some 56, .mov (.t 0), none⟩, ⟨some 57, .mov (.t 1), none⟩, ⟨some 58, .mov (.t 11), none⟩, ⟨some 59, .mov (.t 12), none⟩, ⟨some 60, .load true 2 (.t 14), none⟩, ⟨some 61, .call 66 [.t 59, .t 60], none⟩, ⟨some 62, .call 204 [.t 57, .t 58, .t 61], none⟩, ⟨some 63, .mov (.t 2), none⟩, ⟨some 64, .un .not (.t 63), none⟩, ⟨some 65, .call 199 [.t 56, .t 62, .t 64], none⟩, ⟨some 66, .un .not (.t 65), none⟩]) (.kl [14, 56, 57, 58, 59, 60, 61, 62, 63, 64, 65] (.cond (.t 66) (.kl [10, 11, 12, 50, 51, 52, 66] (.seq (.reg [⟨some 10, .mov (.c (.bool true)), none⟩]) (.exit 4))) (.skip))))))) (.kl [66] (.reg [⟨some 67, .bin .add (.t 52) (.c (.int .i64 1)), none⟩, ⟨some 52, .mov (.t 67), none⟩]))))))
def lp199_2 : C := lb199_2
def lb199_1 : C := .kl [69] (.seq (.reg [⟨some 42, .bin .lss (.t 41) (.t 40), none⟩]) (.seq (.cond (.t 42) (.skip) (.kl [1, 2, 39, 40, 41, 42] (.exit 2))) (.kl [42] (.seq (.blk 3 (.seq (.reg [⟨some 43, .mov (.t 41), none⟩, ⟨some 44, .iaddr 1 (.t 39) (.t 41), none⟩, ⟨some 45, .load false 1 (.t 44), none⟩, ⟨some 11, .mov (.t 43), none⟩, ⟨some 12, .mov (.t 45), none⟩]) (.kl [43, 44, 45] (.seq (.seq (.reg [⟨some 46, .mov (.t 12), none⟩, ⟨some 47, .mov (.t 2), none⟩, ⟨some 48, .mov (.t 2), none⟩, ⟨some 49, .un .not (.t 48), none⟩, ⟨some 50, .call 119 [.t 46, .t 47, .t 49], none⟩, ⟨some 51, .lenV (.t 50), none⟩, ⟨some 52, .mov (.c (.int .i64 0)), none⟩]) (.kl [46, 47, 48, 49] (.blk 4 (.loop lp199_2)))) (.seq (.reg [⟨some 68, .mov (.t 10), none⟩]) (.cond (.t 68) (.kl [1, 2, 39, 40, 41, 68] (.exit 2)) (.skip))))))) (.kl [68] (.reg [⟨some 69, .bin .add (.t 41) (.c (.int .i64 1)), none⟩, ⟨some 41, .mov (.t 69), none⟩]))))))
def lp199_1 : C := lb199_1
def lb199_0 : C := .kl [38] (.seq (.reg [⟨some 24, .bin .lss (.t 23) (.t 22), none⟩]) (.seq (.cond (.t 24) (.skip) (.kl [21, 22, 23, 24] (.exit 0))) (.kl [24] (.seq (.blk 1 (.seq (.reg [⟨some 25, .mov (.t 23), none⟩, ⟨some 26, .iaddr 1 (.t 21) (.t 23), none⟩, ⟨some 27, .load false 1 (.t 26), none⟩, ⟨some 8, .mov (.t 25), none⟩, ⟨some 9, .mov (.t 27), none⟩]) (.kl [25, 26, 27] (.seq (.reg [⟨some 28, .mov (.t 9), none⟩, ⟨some 29, .mov (.t 7), none⟩, ⟨some 30, .bin .eql (.t 28) (.t 29), none⟩]) (.kl [9, 28, 29] (.cond (.t 30) (.kl [1, 2, 7, 21, 22, 23, 30] (.seq (.reg [⟨some 31, .mov (.t 0), none⟩, ⟨some 32, .nck (.t 31), none⟩, ⟨some 33, .faddr 1 1 (.t 32), none⟩, ⟨some 34, .load false 1 (.t 33), none⟩, ⟨some 35, .mov (.t 8), none⟩, ⟨some 36, .iaddr 1 (.t 34) (.t 35), none⟩, ⟨some 37, .load false 1 (.t 36), none⟩, ⟨some 6, .mov (.t 37), none⟩]) (.kl [0, 8, 31, 32, 33, 34, 35, 36, 37] (.ret)))) (.skip))))))) (.kl [8, 30] (.reg [⟨some 38, .bin .add (.t 23) (.c (.int .i64 1)), none⟩, ⟨some 23, .mov (.t 38), none⟩]))))))
def lp199_0 : C := lb199_0
def fi199 : FI := ⟨.seq (.reg [⟨some 6, .mov (.c (.bool false)), none⟩]) (.kl [6] (.seq (.reg [⟨some 15, .mov (.t 1), none⟩, ⟨some 16, .mov (.t 2), none⟩, ⟨some 17, .call 203 [.t 15, .t 16], none⟩, ⟨some 7, .mov (.t 17), none⟩]) (.kl [15, 16, 17] (.seq (.seq (.reg [⟨some 18, .mov (.t 0), none⟩, ⟨some 19, .nck (.t 18), none⟩, ⟨some 20, .faddr 0 1 (.t 19), none⟩, ⟨some 21, .load false 1 (.t 20), none⟩, ⟨some 22, .lenV (.t 21), none⟩, ⟨some 23, .mov (.c (.int .i64 0)), none⟩]) (.kl [18, 19, 20] (.blk 0 (.loop lp199_0)))) (.seq (.reg [⟨some 10, .mov (.c (.bool false)), none⟩]) (.seq (.seq (.reg [⟨some 39, .mov (.t 1), none⟩, ⟨some 40, .lenV (.t 39), none⟩, ⟨some 41, .mov (.c (.int .i64 0)), none⟩]) (.blk 2 (.loop lp199_1))) (.seq (.reg [⟨some 70, .mov (.t 0), none⟩, ⟨some 71, .mov (.t 0), none⟩, ⟨some 72, .nck (.t 71), none⟩, ⟨some 73, .faddr 0 1 (.t 72), none⟩, ⟨some 74, .load false 1 (.t 73), none⟩, ⟨some 75, .mov (.t 7), none⟩, ⟨some 76, .lit 1 1 [.str []] [(0, 1, .t 75)], none⟩, ⟨some 77, .app 1 (.t 74) (.t 76), none⟩, ⟨some 78, .nck (.t 70), none⟩, ⟨some 79, .faddr 0 1 (.t 78), none⟩, ⟨none, .store 1 (.t 79) (.t 77), none⟩]) (.kl [7, 70, 71, 72, 73, 74, 75, 76, 77, 78, 79] (.seq (.reg [⟨some 80, .mov (.t 0), none⟩, ⟨some 81, .mov (.t 0), none⟩, ⟨some 82, .nck (.t 81), none⟩, ⟨some 83, .faddr 1 1 (.t 82), none⟩, ⟨some 84, .load false 1 (.t 83), none⟩, ⟨some 85, .mov (.t 10), none⟩, ⟨some 86, .lit 1 1 [.bool false] [(0, 1, .t 85)], none⟩, ⟨some 87, .app 1 (.t 84) (.t 86), none⟩, ⟨some 88, .nck (.t 80), none⟩, ⟨some 89, .faddr 1 1 (.t 88), none⟩, ⟨none, .store 1 (.t 89) (.t 87), none⟩]) (.kl [0, 80, 81, 82, 83, 84, 85, 86, 87, 88, 89] (.seq (.reg [⟨some 90, .mov (.t 10), none⟩, ⟨some 6, .mov (.t 90), none⟩]) (.kl [10, 90] (.ret))))))))))))), [.tmp 6]⟩
/-- spec.gaOutcome -/
def fi197 : FI := ⟨.seq (.reg [⟨some 2, .mov (.c (.str [])), none⟩]) (.kl [2] (.seq (.reg [⟨some 6, .build [.nilS, .nilS] [], none⟩, ⟨some 7, .box (.t 6), none⟩, ⟨some 3, .mov (.t 7), none⟩]) (.kl [6, 7] (.seq (.reg [⟨some 8, .mov (.t 3), none⟩, ⟨some 9, .mov (.t 0), none⟩, ⟨some 10, .call 199 [.t 8, .t 9, .c (.bool true)], none⟩, ⟨some 11, .mov (.t 3), none⟩, ⟨some 12, .mov (.t 0), none⟩, ⟨some 13, .call 199 [.t 11, .t 12, .c (.bool false)], none⟩, ⟨some 4, .mov (.t 10), none⟩, ⟨some 5, .mov (.t 13), none⟩]) (.kl [0, 3, 8, 9, 10, 11, 12, 13] (.seq (.blk 0 (.seq (.reg [⟨some 15, .mov (.t 4), none⟩, ⟨some 16, .mov (.t 15), none⟩, ⟨some 17, .mov (.t 5), some (16, true)⟩, ⟨some 18, .pick (.t 16) (.t 17) (.c (.bool false)), none⟩, ⟨some 14, .mov (.t 18), none⟩]) (.kl [15, 16, 17, 18] (.cond (.t 14) (.kl [4, 5, 14] (.seq (.reg [⟨some 2, .mov (.c (.str [49])), none⟩]) (.ret))) (.kl [14] (.seq (.reg [⟨some 20, .mov (.t 4), none⟩, ⟨some 19, .mov (.t 20), none⟩]) (.kl [4, 20] (.cond (.t 19) (.kl [5, 19] (.seq (.reg [⟨some 2, .mov (.c (.str [84])), none⟩]) (.ret))) (.kl [19] (.seq (.reg [⟨some 22, .mov (.t 5), none⟩, ⟨some 21, .mov (.t 22), none⟩]) (.kl [5, 22] (.cond (.t 21) (.kl [21] (.seq (.reg [⟨some 2, .mov (.c (.str [70])), none⟩]) (.ret))) (.skip))))))))))))) (.kl [21] (.seq (.reg [⟨some 2, .mov (.c (.str [50])), none⟩]) (.ret))))))))), [.tmp 2]⟩
-- lp104_0 HEAD [0, 3] | exit 0: [] | ret: [2]
/-- spec.liGood -/
def lb104_0 : C := .kl [12, 13] (.seq (.seq (.reg [⟨some 8, .mov (.t 3), none⟩, ⟨some 9, .mov (.t 0), none⟩, ⟨some 10, .lenS (.t 9), none⟩, ⟨some 11, .bin .lss (.t 8) (.t 10), none⟩]) (.kl [8, 9, 10] (.cond (.t 11) (.skip) (.kl [0, 3, 11] (.exit 0))))) (.kl [11] (.seq (.blk 1 (.seq (.reg [⟨some 14, .mov (.t 0), none⟩, ⟨some 15, .mov (.t 3), none⟩, ⟨some 16, .idxS (.t 14) (.t 15), none⟩, ⟨some 17, .bin .neq (.t 16) (.c (.int .u8 84)), none⟩, ⟨some 18, .mov (.t 17), none⟩, ⟨some 19, .mov (.t 0), some (18, true)⟩, ⟨some 20, .mov (.t 3), some (18, true)⟩, ⟨some 21, .idxS (.t 19) (.t 20), some (18, true)⟩, ⟨some 22, .bin .neq (.t 21) (.c (.int .u8 70)), some (18, true)⟩, ⟨some 23, .pick (.t 18) (.t 22) (.c (.bool false)), none⟩, ⟨some 24, .mov (.t 23), none⟩, ⟨some 25, .mov (.t 0), some (24, true)⟩, ⟨some 26, .mov (.t 3), some (24, true)⟩, ⟨some 27, .idxS (.t 25) (.t 26), some (24, true)⟩, ⟨some 28, .bin .neq (.t 27) (.c (.int .u8 46)), some (24, true)⟩, ⟨some 29, .pick (.t 24) (.t 28) (.c (.bool false)), none⟩]) (.kl [14, 15, 16, 17, 18, 19, 20, 21, 22, 23, 24, 25, 26, 27, 28] (.cond (.t 29) (.kl [0, 3, 29] (.seq (.reg [⟨some 2, .mov (.c (.bool false)), none⟩]) (.ret))) (.skip))))) (.kl [29] (.reg [⟨some 12, .mov (.t 3), none⟩, ⟨some 13, .bin .add (.t 12) (.c (.int .i64 1)), none⟩, ⟨some 3, .mov (.t 13), none⟩])))))
def lp104_0 : C := lb104_0
def fi104 : FI := ⟨.seq (.reg [⟨some 2, .mov (.c (.bool false)), none⟩]) (.kl [2] (.seq (.seq (.reg [⟨some 4, .mov (.t 0), none⟩, ⟨some 5, .lenS (.t 4), none⟩, ⟨some 6, .call 77 [.t 5, .c (.int .i64 1), .c (.int .i64 12)], none⟩, ⟨some 7, .un .not (.t 6), none⟩]) (.kl [4, 5, 6] (.cond (.t 7) (.kl [0, 7] (.seq (.reg [⟨some 2, .mov (.c (.bool false)), none⟩]) (.ret))) (.skip)))) (.kl [7] (.seq (.seq (.reg [⟨some 3, .mov (.c (.int .i64 0)), none⟩]) (.blk 0 (.loop lp104_0))) (.seq (.reg [⟨some 2, .mov (.c (.bool true)), none⟩]) (.ret)))))), [.tmp 2]⟩
/-- (*spec.l1Cur).one -/
def fi64 : FI := ⟨.seq (.reg [⟨some 4, .mov (.c (.bool false)), none⟩]) (.kl [4] (.seq (.reg [⟨some 5, .mov (.t 0), none⟩, ⟨some 6, .mov (.t 1), none⟩, ⟨some 7, .call 63 [.t 5, .t 6], none⟩, ⟨some 8, .bin .eql (.t 7) (.c (.int .i64 0)), none⟩, ⟨some 4, .mov (.t 8), none⟩]) (.kl [0, 1, 5, 6, 7, 8] (.ret)))), [.tmp 4]⟩
/-- (*spec.l1Cur).line -/
def fi101 : FI := ⟨.seq (.reg [⟨some 2, .mov (.c (.str [])), none⟩]) (.kl [2] (.seq (.seq (.reg [⟨some 3, .mov (.t 0), none⟩, ⟨some 4, .call 63 [.t 3, .c (.int .i64 16)], none⟩]) (.kl [3] (.blk 0 (.seq (.reg [⟨some 6, .bin .eql (.t 4) (.c (.int .i64 0)), none⟩, ⟨some 5, .mov (.t 6), none⟩]) (.kl [6] (.cond (.t 5) (.kl [4, 5] (.seq (.reg [⟨some 7, .mov (.t 0), none⟩, ⟨some 8, .lit 1 5 [.str [], .str [], .str [], .str [], .str []] [(0, 1, .c (.str [])), (1, 1, .c (.str [120])), (2, 1, .c (.str [84, 32, 70])), (3, 1, .c (.str [84, 46, 70, 46, 84, 46, 70, 46, 84, 46, 70, 46, 84])), (4, 1, .c (.str [116, 46, 102]))], none⟩, ⟨some 9, .call 71 [.t 7, .t 8], none⟩, ⟨some 2, .mov (.t 9), none⟩]) (.kl [0, 7, 8, 9] (.ret)))) (.kl [5] (.seq (.seq (.reg [⟨some 11, .bin .eql (.t 4) (.c (.int .i64 1)), none⟩, ⟨some 10, .mov (.t 11), none⟩]) (.kl [11] (.cond (.t 10) (.skip) (.kl [10] (.seq (.reg [⟨some 12, .bin .eql (.t 4) (.c (.int .i64 2)), none⟩, ⟨some 10, .mov (.t 12), none⟩]) (.kl [12] (.cond (.t 10) (.skip) (.kl [10] (.reg [⟨some 13, .bin .eql (.t 4) (.c (.int .i64 3)), none⟩, ⟨some 10, .mov (.t 13), none⟩]))))))))) (.kl [4, 13] (.cond (.t 10) (.kl [10] (.seq (.reg [⟨some 14, .mov (.t 0), none⟩, ⟨some 15, .call 63 [.t 14, .c (.int .i64 3)], none⟩, ⟨some 16, .bin .add (.c (.int .i64 1)) (.t 15), none⟩, ⟨some 17, .mov (.t 0), none⟩, ⟨some 18, .call 63 [.t 17, .c (.int .i64 2)], none⟩, ⟨some 19, .bin .add (.c (.int .i64 1)) (.t 18), none⟩, ⟨some 20, .mov (.t 0), none⟩, ⟨some 21, .call 63 [.t 20, .c (.int .i64 3)], none⟩, ⟨some 22, .bin .add (.c (.int .i64 1)) (.t 21), none⟩, ⟨some 23, .call 100 [.t 16, .t 19, .t 22], none⟩, ⟨some 2, .mov (.t 23), none⟩]) (.kl [0, 14, 15, 16, 17, 18, 19, 20, 21, 22, 23] (.ret)))) (.skip))))))))))) (.kl [10] (.seq (.reg [⟨some 24, .mov (.t 0), none⟩, ⟨some 25, .call 99 [.t 24, .c (.int .i64 9)], none⟩, ⟨some 2, .mov (.t 25), none⟩]) (.kl [0, 24, 25] (.ret)))))), [.tmp 2]⟩
/-- (*spec.l1Cur).among -/
def fi62 : FI := ⟨.seq (.reg [⟨some 4, .mov (.c (.int .i64 0)), none⟩]) (.kl [4] (.seq (.reg [⟨some 5, .mov (.t 1), none⟩, ⟨some 6, .mov (.t 0), none⟩, ⟨some 7, .mov (.t 1), none⟩, ⟨some 8, .lenV (.t 7), none⟩, ⟨some 9, .call 63 [.t 6, .t 8], none⟩, ⟨some 10, .iaddr 1 (.t 5) (.t 9), none⟩, ⟨some 11, .load false 1 (.t 10), none⟩, ⟨some 4, .mov (.t 11), none⟩]) (.kl [0, 1, 5, 6, 7, 8, 9, 10, 11] (.ret)))), [.tmp 4]⟩
-- lp99_0 HEAD [0, 5, 6] | exit 0: [0, 5]
/-- (*spec.l1Cur).sureLine -/
def lb99_0 : C := .kl [13, 14] (.seq (.seq (.reg [⟨some 11, .mov (.t 6), none⟩, ⟨some 12, .bin .gtr (.t 11) (.c (.int .i64 0)), none⟩]) (.kl [11] (.cond (.t 12) (.skip) (.kl [6, 12] (.exit 0))))) (.kl [12] (.seq (.blk 1 (.reg [⟨some 15, .mov (.t 5), none⟩, ⟨some 16, .mov (.t 0), none⟩, ⟨some 17, .lit 1 5 [.str [], .str [], .str [], .str [], .str []] [(0, 1, .c (.str [84])), (1, 1, .c (.str [70])), (2, 1, .c (.str [46])), (3, 1, .c (.str [84])), (4, 1, .c (.str [70]))], none⟩, ⟨some 18, .call 71 [.t 16, .t 17], none⟩, ⟨some 19, .bin .add (.t 15) (.t 18), none⟩, ⟨some 5, .mov (.t 19), none⟩])) (.kl [15, 16, 17, 18, 19] (.reg [⟨some 13, .mov (.t 6), none⟩, ⟨some 14, .bin .sub (.t 13) (.c (.int .i64 1)), none⟩, ⟨some 6, .mov (.t 14), none⟩])))))
def lp99_0 : C := lb99_0
def fi99 : FI := ⟨.seq (.reg [⟨some 4, .mov (.c (.str [])), none⟩]) (.kl [4] (.seq (.reg [⟨some 5, .mov (.c (.str [])), none⟩]) (.seq (.seq (.reg [⟨some 7, .mov (.t 0), none⟩, ⟨some 8, .mov (.t 1), none⟩, ⟨some 9, .call 63 [.t 7, .t 8], none⟩, ⟨some 10, .bin .add (.c (.int .i64 1)) (.t 9), none⟩, ⟨some 6, .mov (.t 10), none⟩]) (.kl [1, 7, 8, 9, 10] (.blk 0 (.loop lp99_0)))) (.seq (.seq (.reg [⟨some 20, .mov (.t 5), none⟩, ⟨some 21, .call 116 [.t 20, .c (.int .u8 46)], none⟩, ⟨some 22, .bin .eql (.t 21) (.c (.int .i64 0)), none⟩, ⟨some 23, .mov (.t 22), none⟩, ⟨some 24, .mov (.t 0), some (23, true)⟩, ⟨some 25, .call 64 [.t 24, .c (.int .i64 8)], some (23, true)⟩, ⟨some 26, .un .not (.t 25), some (23, true)⟩, ⟨some 27, .pick (.t 23) (.t 26) (.c (.bool false)), none⟩]) (.kl [20, 21, 22, 23, 24, 25, 26] (.cond (.t 27) (.kl [27] (.seq (.reg [⟨some 28, .mov (.t 5), none⟩, ⟨some 29, .mov (.t 0), none⟩, ⟨some 30, .mov (.t 5), none⟩, ⟨some 31, .lenS (.t 30), none⟩, ⟨some 32, .call 63 [.t 29, .t 31], none⟩, ⟨some 33, .call 108 [.t 28, .t 32, .c (.str [46])], none⟩, ⟨some 4, .mov (.t 33), none⟩]) (.kl [0, 5, 28, 29, 30, 31, 32, 33] (.ret)))) (.skip)))) (.kl [0, 27] (.seq (.reg [⟨some 34, .mov (.t 5), none⟩, ⟨some 4, .mov (.t 34), none⟩]) (.kl [5, 34] (.ret)))))))), [.tmp 4]⟩
/-- (*spec.l1Cur).pick -/
def fi63 : FI := ⟨.seq (.reg [⟨some 4, .mov (.c (.int .i64 0)), none⟩]) (.kl [4] (.seq (.seq (.reg [⟨some 6, .mov (.t 1), none⟩, ⟨some 7, .bin .leq (.t 6) (.c (.int .i64 1)), none⟩]) (.kl [6] (.cond (.t 7) (.kl [0, 1, 7] (.seq (.reg [⟨some 4, .mov (.c (.int .i64 0)), none⟩]) (.ret))) (.skip)))) (.kl [7] (.seq (.reg [⟨some 8, .mov (.t 0), none⟩, ⟨some 9, .call 107 [.t 8], none⟩, ⟨some 5, .mov (.t 9), none⟩]) (.kl [8, 9] (.seq (.seq (.reg [⟨some 10, .mov (.t 1), none⟩, ⟨some 11, .bin .gtr (.t 10) (.c (.int .i64 200)), none⟩]) (.kl [10] (.cond (.t 11) (.kl [11] (.reg [⟨some 12, .mov (.t 5), none⟩, ⟨some 13, .bin .mul (.t 12) (.c (.int .i64 256)), none⟩, ⟨some 14, .mov (.t 0), none⟩, ⟨some 15, .call 107 [.t 14], none⟩, ⟨some 16, .bin .add (.t 13) (.t 15), none⟩, ⟨some 5, .mov (.t 16), none⟩])) (.skip)))) (.kl [0, 11, 12, 13, 14, 15, 16] (.seq (.reg [⟨some 17, .mov (.t 5), none⟩, ⟨some 18, .mov (.t 1), none⟩, ⟨some 19, .bin .rem (.t 17) (.t 18), none⟩, ⟨some 4, .mov (.t 19), none⟩]) (.kl [1, 5, 17, 18, 19] (.ret)))))))))), [.tmp 4]⟩
-- lp602_0 HEAD [0, 2, 3] | exit 1: [2, 3]
/-- (*spec.l1Cur).puzzle -/
def lb602_0 : C := .kl [32, 33, 34, 35, 36, 37] (.seq (.seq (.drw [⟨some 25, .faddr 1 1 (.t 3), none⟩, ⟨some 26, .load false 1 (.t 25), none⟩, ⟨some 27, .lenV (.t 26), none⟩, ⟨some 28, .mov (.t 0), none⟩, ⟨some 29, .call 63 [.t 28, .c (.int .i64 2)], none⟩, ⟨some 30, .bin .add (.c (.int .i64 6)) (.t 29), none⟩, ⟨some 31, .bin .lss (.t 27) (.t 30), none⟩] [(1, 4)]) (.kl [25, 26, 27, 28, 29, 30] (.cond (.t 31) (.skip) (.kl [0, 31] (.exit 1))))) (.kl [31] (.blk 2 (.reg [⟨some 32, .faddr 1 1 (.t 3), none⟩, ⟨some 33, .load false 1 (.t 32), none⟩, ⟨some 34, .build [.int .i64 0, .int .i64 0, .int .i64 0] [(0, 1, .c (.int .i64 4)), (1, 1, .c (.int .i64 1))], none⟩, ⟨some 35, .lit 3 1 [.int .i64 0, .int .i64 0, .int .i64 0] [(0, 3, .t 34)], none⟩, ⟨some 36, .app 3 (.t 33) (.t 35), none⟩, ⟨some 37, .faddr 1 1 (.t 3), none⟩, ⟨none, .store 1 (.t 37) (.t 36), none⟩]))))
def lp602_0 : C := lb602_0
def fi602 : FI := ⟨.seq (.reg [⟨some 2, .new [.int .i64 0, .nilS], none⟩]) (.seq (.reg [⟨some 4, .mov (.t 0), none⟩, ⟨some 5, .call 610 [.t 4, .c (.int .i64 5)], none⟩, ⟨some 3, .new [.int .i64 0, .nilS], none⟩, ⟨none, .store 2 (.t 3) (.t 5), none⟩]) (.kl [4, 5] (.seq (.seq (.reg [⟨some 6, .mov (.t 0), none⟩, ⟨some 7, .call 63 [.t 6, .c (.int .i64 12)], none⟩]) (.kl [6] (.blk 0 (.seq (.reg [⟨some 9, .bin .eql (.t 7) (.c (.int .i64 0)), none⟩, ⟨some 8, .mov (.t 9), none⟩]) (.kl [9] (.cond (.t 8) (.kl [7, 8] (.reg [⟨some 10, .mov (.t 0), none⟩, ⟨some 11, .lit 1 5 [.int .i64 0, .int .i64 0, .int .i64 0, .int .i64 0, .int .i64 0] [(0, 1, .c (.int .i64 0)), (1, 1, .c (.int .i64 1)), (2, 1, .c (.int .i64 5)), (3, 1, .c (.int .i64 6)), (4, 1, .c (.int .i64 (-1)))], none⟩, ⟨some 12, .call 62 [.t 10, .t 11], none⟩, ⟨some 13, .faddr 0 1 (.t 3), none⟩, ⟨none, .store 1 (.t 13) (.t 12), none⟩])) (.kl [8] (.seq (.reg [⟨some 15, .bin .eql (.t 7) (.c (.int .i64 1)), none⟩, ⟨some 14, .mov (.t 15), none⟩]) (.kl [15] (.cond (.t 14) (.kl [7, 14] (.drw [⟨some 16, .faddr 1 1 (.t 3), none⟩, ⟨some 17, .load false 1 (.t 16), none⟩, ⟨some 18, .mov (.t 0), none⟩, ⟨some 19, .call 603 [.t 18], none⟩, ⟨some 20, .lit 3 1 [.int .i64 0, .int .i64 0, .int .i64 0] [(0, 3, .t 19)], none⟩, ⟨some 21, .app 3 (.t 17) (.t 20), none⟩, ⟨some 22, .faddr 1 1 (.t 3), none⟩, ⟨none, .store 1 (.t 22) (.t 21), none⟩] [(1, 3), (1, 4)])) (.kl [14] (.seq (.reg [⟨some 24, .bin .eql (.t 7) (.c (.int .i64 2)), none⟩, ⟨some 23, .mov (.t 24), none⟩]) (.kl [7, 24] (.cond (.t 23) (.kl [23] (.blk 1 (.loop lp602_0))) (.skip))))))))))))))) (.kl [0, 10, 11, 12, 13, 16, 17, 18, 19, 20, 21, 22, 23] (.seq (.reg [⟨some 38, .load true 2 (.t 3), none⟩, ⟨none, .store 2 (.t 2) (.t 38), none⟩]) (.kl [3, 38] (.ret))))))), [.cell true 2 2]⟩
/-- (*spec.l1Cur).clue -/
def fi603 : FI := ⟨.seq (.reg [⟨some 2, .new [.int .i64 0, .int .i64 0, .int .i64 0], none⟩]) (.seq (.reg [⟨some 4, .mov (.t 0), none⟩, ⟨some 5, .call 63 [.t 4, .c (.int .i64 6)], none⟩, ⟨some 6, .mov (.t 0), none⟩, ⟨some 7, .call 63 [.t 6, .c (.int .i64 9)], none⟩, ⟨some 8, .bin .quo (.t 7) (.c (.int .i64 8)), none⟩, ⟨some 9, .bin .add (.t 5) (.t 8), none⟩, ⟨some 10, .mov (.t 0), none⟩, ⟨some 11, .call 63 [.t 10, .c (.int .i64 4)], none⟩, ⟨some 12, .mov (.t 0), none⟩, ⟨some 13, .call 63 [.t 12, .c (.int .i64 9)], none⟩, ⟨some 14, .bin .quo (.t 13) (.c (.int .i64 8)), none⟩, ⟨some 15, .bin .sub (.t 11) (.t 14), none⟩, ⟨some 16, .build [.int .i64 0, .int .i64 0, .int .i64 0] [(0, 1, .t 9), (1, 1, .t 15)], none⟩, ⟨some 3, .new [.int .i64 0, .int .i64 0, .int .i64 0], none⟩, ⟨none, .store 3 (.t 3) (.t 16), none⟩]) (.kl [4, 5, 6, 7, 8, 9, 10, 11, 12, 13, 14, 15, 16] (.seq (.seq (.reg [⟨some 17, .faddr 0 1 (.t 3), none⟩, ⟨some 18, .load false 1 (.t 17), none⟩, ⟨some 19, .bin .eql (.t 18) (.c (.int .i64 0)), none⟩, ⟨some 20, .mov (.t 19), none⟩, ⟨some 21, .mov (.t 0), some (20, false)⟩, ⟨some 22, .call 64 [.t 21, .c (.int .i64 8)], some (20, false)⟩, ⟨some 23, .pick (.t 20) (.c (.bool true)) (.t 22), none⟩]) (.kl [17, 18, 19, 20, 21, 22] (.cond (.t 23) (.kl [23] (.reg [⟨some 24, .mov (.t 0), none⟩, ⟨some 25, .call 63 [.t 24, .c (.int .i64 3)], none⟩, ⟨some 26, .mov (.t 0), none⟩, ⟨some 27, .call 63 [.t 26, .c (.int .i64 9)], none⟩, ⟨some 28, .bin .quo (.t 27) (.c (.int .i64 8)), none⟩, ⟨some 29, .bin .add (.t 25) (.t 28), none⟩, ⟨some 30, .faddr 2 1 (.t 3), none⟩, ⟨none, .store 1 (.t 30) (.t 29), none⟩])) (.skip)))) (.kl [0, 23, 24, 25, 26, 27, 28, 29, 30] (.seq (.reg [⟨some 31, .load true 3 (.t 3), none⟩, ⟨none, .store 3 (.t 2) (.t 31), none⟩]) (.kl [3, 31] (.ret))))))), [.cell true 3 2]⟩
/-- impl.count -/
def fi189 : FI := ⟨.seq (.reg [⟨some 2, .mov (.c (.int .i64 0)), none⟩, ⟨some 3, .mov (.c (.int .i64 0)), none⟩, ⟨some 4, .mov (.c (.int .i64 0)), none⟩]) (.kl [2, 3, 4] (.seq (.reg [⟨some 5, .mov (.t 0), none⟩, ⟨some 6, .call 131 [.t 5, .c (.str [84])], none⟩, ⟨some 7, .mov (.t 0), none⟩, ⟨some 8, .call 131 [.t 7, .c (.str [46])], none⟩, ⟨some 9, .mov (.t 0), none⟩, ⟨some 10, .call 131 [.t 9, .c (.str [70])], none⟩, ⟨some 2, .mov (.t 6), none⟩, ⟨some 3, .mov (.t 8), none⟩, ⟨some 4, .mov (.t 10), none⟩]) (.kl [0, 5, 6, 7, 8, 9, 10] (.ret)))), [.tmp 2, .tmp 3, .tmp 4]⟩
-- lp105_0 HEAD [0, 1, 5, 11, 12] | exit 0: [5]
/-- impl.moves -/
def lb105_0 : C := .kl [37] (.seq (.reg [⟨some 13, .bin .lss (.t 12) (.t 11), none⟩]) (.seq (.cond (.t 13) (.skip) (.kl [0, 1, 11, 12, 13] (.exit 0))) (.kl [13] (.seq (.blk 1 (.seq (.reg [⟨some 14, .mov (.t 12), none⟩, ⟨some 6, .mov (.t 14), none⟩]) (.kl [14] (.seq (.reg [⟨some 16, .mov (.t 0), none⟩, ⟨some 17, .mov (.t 6), none⟩, ⟨some 18, .call 127 [.t 16, .t 17], none⟩, ⟨some 15, .mov (.t 18), none⟩, ⟨some 19, .prj 0 (.t 15), none⟩, ⟨some 20, .prj 1 (.t 15), none⟩, ⟨some 7, .mov (.t 19), none⟩, ⟨some 8, .mov (.t 20), none⟩]) (.kl [15, 16, 17, 18, 19, 20] (.seq (.reg [⟨some 21, .mov (.t 8), none⟩, ⟨some 22, .mov (.t 21), none⟩, ⟨some 23, .mov (.t 1), some (22, true)⟩, ⟨some 24, .mov (.t 0), some (22, true)⟩, ⟨some 25, .mov (.t 6), some (22, true)⟩, ⟨some 26, .mov (.t 6), some (22, true)⟩, ⟨some 27, .bin .add (.t 26) (.c (.int .i64 1)), some (22, true)⟩, ⟨some 28, .subS (.t 24) (some (.t 25)) (some (.t 27)), some (22, true)⟩, ⟨some 29, .call 126 [.t 23, .t 28], some (22, true)⟩, ⟨some 30, .pick (.t 22) (.t 29) (.c (.bool false)), none⟩]) (.kl [8, 21, 22, 23, 24, 25, 26, 27, 28, 29] (.cond (.t 30) (.kl [30] (.reg [⟨some 31, .mov (.t 5), none⟩, ⟨some 32, .mov (.t 6), none⟩, ⟨some 33, .mov (.t 7), none⟩, ⟨some 34, .build [.int .i64 0, .int .i64 0] [(0, 1, .t 32), (1, 1, .t 33)], none⟩, ⟨some 35, .lit 2 1 [.int .i64 0, .int .i64 0] [(0, 2, .t 34)], none⟩, ⟨some 36, .app 2 (.t 31) (.t 35), none⟩, ⟨some 5, .mov (.t 36), none⟩])) (.skip))))))))) (.kl [6, 7, 30, 31, 32, 33, 34, 35, 36] (.reg [⟨some 37, .bin .add (.t 12) (.c (.int .i64 1)), none⟩, ⟨some 12, .mov (.t 37), none⟩]))))))
def lp105_0 : C := lb105_0
def fi105 : FI := ⟨.seq (.reg [⟨some 4, .mov (.c (.nilS)), none⟩]) (.kl [4] (.seq (.reg [⟨some 9, .lit0, none⟩, ⟨some 5, .mov (.t 9), none⟩]) (.kl [9] (.seq (.seq (.reg [⟨some 10, .mov (.t 0), none⟩, ⟨some 11, .lenS (.t 10), none⟩, ⟨some 12, .mov (.c (.int .i64 0)), none⟩]) (.kl [10] (.blk 0 (.loop lp105_0)))) (.seq (.reg [⟨some 38, .mov (.t 5), none⟩, ⟨some 4, .mov (.t 38), none⟩]) (.kl [5, 38] (.ret))))))), [.tmp 4]⟩
/-- spec.pzValue -/
def fi188 : FI := ⟨.seq (.reg [⟨some 6, .mov (.c (.int .i64 0)), none⟩]) (.kl [6] (.seq (.seq (.reg [⟨some 7, .mov (.t 0), none⟩]) (.kl [0] (.blk 0 (.seq (.reg [⟨some 9, .bin .eql (.t 7) (.c (.int .i64 0)), none⟩, ⟨some 8, .mov (.t 9), none⟩]) (.kl [9] (.cond (.t 8) (.kl [7, 8] (.seq (.reg [⟨some 10, .mov (.t 2), none⟩, ⟨some 11, .mov (.t 1), none⟩, ⟨some 12, .mov (.t 1), none⟩, ⟨some 13, .bin .add (.t 12) (.c (.int .i64 1)), none⟩, ⟨some 14, .subS (.t 10) (some (.t 11)) (some (.t 13)), none⟩, ⟨some 15, .call 195 [.c (.str [46, 70, 84]), .t 14], none⟩, ⟨some 6, .mov (.t 15), none⟩]) (.kl [1, 2, 10, 11, 12, 13, 14, 15] (.ret)))) (.kl [1, 8] (.seq (.reg [⟨some 17, .bin .eql (.t 7) (.c (.int .i64 1)), none⟩, ⟨some 16, .mov (.t 17), none⟩]) (.kl [17] (.cond (.t 16) (.kl [7, 16] (.seq (.reg [⟨some 18, .mov (.t 2), none⟩, ⟨some 19, .call 116 [.t 18, .c (.int .u8 84)], none⟩, ⟨some 6, .mov (.t 19), none⟩]) (.kl [2, 18, 19] (.ret)))) (.kl [16] (.seq (.reg [⟨some 21, .bin .eql (.t 7) (.c (.int .i64 2)), none⟩, ⟨some 20, .mov (.t 21), none⟩]) (.kl [21] (.cond (.t 20) (.kl [7, 20] (.seq (.reg [⟨some 22, .mov (.t 2), none⟩, ⟨some 23, .call 116 [.t 22, .c (.int .u8 70)], none⟩, ⟨some 6, .mov (.t 23), none⟩]) (.kl [2, 22, 23] (.ret)))) (.kl [20] (.seq (.reg [⟨some 25, .bin .eql (.t 7) (.c (.int .i64 3)), none⟩, ⟨some 24, .mov (.t 25), none⟩]) (.kl [25] (.cond (.t 24) (.kl [7, 24] (.seq (.reg [⟨some 26, .mov (.t 2), none⟩, ⟨some 27, .call 119 [.t 26, .c (.bool true), .c (.bool true)], none⟩, ⟨some 28, .lenV (.t 27), none⟩, ⟨some 6, .mov (.t 28), none⟩]) (.kl [2, 26, 27, 28] (.ret)))) (.kl [24] (.seq (.reg [⟨some 30, .bin .eql (.t 7) (.c (.int .i64 4)), none⟩, ⟨some 29, .mov (.t 30), none⟩]) (.kl [7, 30] (.cond (.t 29) (.kl [29] (.seq (.reg [⟨some 31, .mov (.t 2), none⟩, ⟨some 32, .call 196 [.t 31], none⟩, ⟨some 6, .mov (.t 32), none⟩]) (.kl [2, 31, 32] (.ret)))) (.skip))))))))))))))))))))))) (.kl [29] (.seq (.reg [⟨some 33, .mov (.t 2), none⟩, ⟨some 34, .lit 1 1 [.str []] [(0, 1, .t 33)], none⟩, ⟨some 35, .call 197 [.t 34], none⟩, ⟨some 36, .call 195 [.c (.str [49, 50, 70, 84]), .t 35], none⟩, ⟨some 6, .mov (.t 36), none⟩]) (.kl [2, 33, 34, 35, 36] (.ret)))))), [.tmp 6]⟩
-- lp178_0 HEAD [3, 10, 11] | exit 0: [3] | exit 2: [4, 10, 11] | exit 4: [4, 10, 11, 14, 15, 16]
-- lp178_1 HEAD [4, 10, 11, 14, 15, 16] | exit 2: [4, 10, 11] | exit 4: [4, 10, 11, 14, 15, 16]
-- lp178_2 HEAD [4, 6, 10, 11, 14, 15, 16, 20] | exit 4: [4, 10, 11, 14, 15, 16]
/-- impl.hidden -/
def lb178_2 : C := .kl [8, 24, 25, 26, 27, 28, 29, 30] (.seq (.reg [⟨some 21, .nxt (.t 20), none⟩, ⟨some 22, .prj 0 (.t 21), none⟩]) (.seq (.cond (.t 22) (.skip) (.kl [6, 20, 21, 22] (.exit 4))) (.kl [22] (.blk 5 (.seq (.reg [⟨some 23, .prj 2 (.t 21), none⟩, ⟨some 8, .mov (.t 23), none⟩]) (.kl [21, 23] (.reg [⟨some 24, .mov (.t 4), none⟩, ⟨some 25, .mov (.t 6), none⟩, ⟨some 26, .mov (.t 8), none⟩, ⟨some 27, .ofR (.t 26), none⟩, ⟨some 28, .bin .add (.t 25) (.t 27), none⟩, ⟨some 29, .lit 1 1 [.str []] [(0, 1, .t 28)], none⟩, ⟨some 30, .app 1 (.t 24) (.t 29), none⟩, ⟨some 4, .mov (.t 30), none⟩])))))))
def lp178_2 : C := lb178_2
def lb178_1 : C := .kl [31] (.seq (.reg [⟨some 17, .bin .lss (.t 16) (.t 15), none⟩]) (.seq (.cond (.t 17) (.skip) (.kl [14, 15, 16, 17] (.exit 2))) (.kl [17] (.seq (.blk 3 (.seq (.reg [⟨some 18, .iaddr 1 (.t 14) (.t 16), none⟩, ⟨some 19, .load false 1 (.t 18), none⟩, ⟨some 6, .mov (.t 19), none⟩]) (.kl [18, 19] (.seq (.reg [⟨some 20, .rng (.c (.str [46, 70, 84])), none⟩]) (.blk 4 (.loop lp178_2)))))) (.reg [⟨some 31, .bin .add (.t 16) (.c (.int .i64 1)), none⟩, ⟨some 16, .mov (.t 31), none⟩])))))
def lp178_1 : C := lb178_1
def lb178_0 : C := .kl [33] (.seq (.reg [⟨some 12, .bin .lss (.t 11) (.t 10), none⟩]) (.seq (.cond (.t 12) (.skip) (.kl [10, 11, 12] (.exit 0))) (.kl [12] (.seq (.blk 1 (.seq (.reg [⟨some 13, .lit0, none⟩, ⟨some 4, .mov (.t 13), none⟩]) (.kl [13] (.seq (.seq (.reg [⟨some 14, .mov (.t 3), none⟩, ⟨some 15, .lenV (.t 14), none⟩, ⟨some 16, .mov (.c (.int .i64 0)), none⟩]) (.kl [3] (.blk 2 (.loop lp178_1)))) (.reg [⟨some 32, .mov (.t 4), none⟩, ⟨some 3, .mov (.t 32), none⟩]))))) (.kl [4, 32] (.reg [⟨some 33, .bin .add (.t 11) (.c (.int .i64 1)), none⟩, ⟨some 11, .mov (.t 33), none⟩]))))))
def lp178_0 : C := lb178_0
def fi178 : FI := ⟨.seq (.reg [⟨some 2, .mov (.c (.nilS)), none⟩]) (.kl [2] (.seq (.reg [⟨some 9, .lit 1 1 [.str []] [(0, 1, .c (.str []))], none⟩, ⟨some 3, .mov (.t 9), none⟩]) (.kl [9] (.seq (.seq (.reg [⟨some 10, .mov (.t 0), none⟩, ⟨some 11, .mov (.c (.int .i64 0)), none⟩]) (.kl [0] (.blk 0 (.loop lp178_0)))) (.seq (.reg [⟨some 34, .mov (.t 3), none⟩, ⟨some 2, .mov (.t 34), none⟩]) (.kl [3, 34] (.ret))))))), [.tmp 2]⟩
-- lp180_0 HEAD [0, 1, 5, 6] | exit 0: [0, 5]
/-- slices.DeleteFunc[[]string,string] -/
def lb180_0 : C := .kl [20, 21] (.seq (.seq (.reg [⟨some 16, .mov (.t 6), none⟩, ⟨some 17, .mov (.t 0), none⟩, ⟨some 18, .lenV (.t 17), none⟩, ⟨some 19, .bin .lss (.t 16) (.t 18), none⟩]) (.kl [16, 17, 18] (.cond (.t 19) (.skip) (.kl [1, 6, 19] (.exit 0))))) (.kl [19] (.seq (.blk 1 (.seq (.reg [⟨some 22, .mov (.t 0), none⟩, ⟨some 23, .mov (.t 6), none⟩, ⟨some 24, .iaddr 1 (.t 22) (.t 23), none⟩, ⟨some 25, .load false 1 (.t 24), none⟩, ⟨some 7, .mov (.t 25), none⟩]) (.kl [22, 23, 24, 25] (.seq (.reg [⟨some 26, .mov (.t 1), none⟩, ⟨some 27, .mov (.t 7), none⟩, ⟨some 28, .callv (.t 26) [.t 27], none⟩, ⟨some 29, .un .not (.t 28), none⟩]) (.kl [26, 27, 28] (.cond (.t 29) (.kl [29] (.seq (.reg [⟨some 30, .mov (.t 0), none⟩, ⟨some 31, .mov (.t 5), none⟩, ⟨some 32, .mov (.t 7), none⟩, ⟨some 33, .iaddr 1 (.t 30) (.t 31), none⟩, ⟨none, .store 1 (.t 33) (.t 32), none⟩]) (.kl [7, 30, 31, 32, 33] (.reg [⟨some 34, .mov (.t 5), none⟩, ⟨some 35, .bin .add (.t 34) (.c (.int .i64 1)), none⟩, ⟨some 5, .mov (.t 35), none⟩])))) (.skip))))))) (.kl [7, 29, 34, 35] (.reg [⟨some 20, .mov (.t 6), none⟩, ⟨some 21, .bin .add (.t 20) (.c (.int .i64 1)), none⟩, ⟨some 6, .mov (.t 21), none⟩])))))
def lp180_0 : C := lb180_0
def fi180 : FI := ⟨.seq (.reg [⟨some 4, .mov (.c (.nilS)), none⟩]) (.kl [4] (.seq (.reg [⟨some 8, .mov (.t 0), none⟩, ⟨some 9, .mov (.t 1), none⟩, ⟨some 10, .call 184 [.t 8, .t 9], none⟩, ⟨some 5, .mov (.t 10), none⟩]) (.kl [8, 9, 10] (.seq (.seq (.reg [⟨some 11, .mov (.t 5), none⟩, ⟨some 12, .bin .eql (.t 11) (.c (.int .i64 (-1))), none⟩]) (.kl [11] (.cond (.t 12) (.kl [1, 5, 12] (.seq (.reg [⟨some 13, .mov (.t 0), none⟩, ⟨some 4, .mov (.t 13), none⟩]) (.kl [0, 13] (.ret)))) (.skip)))) (.kl [12] (.seq (.seq (.reg [⟨some 14, .mov (.t 5), none⟩, ⟨some 15, .bin .add (.t 14) (.c (.int .i64 1)), none⟩, ⟨some 6, .mov (.t 15), none⟩]) (.kl [14, 15] (.blk 0 (.loop lp180_0)))) (.seq (.reg [⟨some 36, .mov (.t 0), none⟩, ⟨some 37, .mov (.t 5), none⟩, ⟨some 38, .sub 1 (.t 36) (some (.t 37)) none, none⟩, ⟨none, .clr [.str []] (.t 38), none⟩]) (.kl [36, 37, 38] (.seq (.reg [⟨some 39, .mov (.t 0), none⟩, ⟨some 40, .mov (.t 5), none⟩, ⟨some 41, .sub 1 (.t 39) none (some (.t 40)), none⟩, ⟨some 4, .mov (.t 41), none⟩]) (.kl [0, 5, 39, 40, 41] (.ret))))))))))), [.tmp 4]⟩
/-- impl.solve$1 -/
def fi179 : FI := ⟨.seq (.reg [⟨some 3, .mov (.c (.bool false)), none⟩]) (.kl [3] (.seq (.reg [⟨some 7, .load true 3 (.t 1), none⟩, ⟨some 8, .mov (.t 0), none⟩, ⟨some 9, .call 185 [.t 7, .t 8], none⟩, ⟨some 6, .mov (.t 9), none⟩, ⟨some 10, .prj 0 (.t 6), none⟩, ⟨some 11, .prj 1 (.t 6), none⟩, ⟨some 4, .mov (.t 10), none⟩, ⟨some 5, .mov (.t 11), none⟩]) (.kl [0, 1, 5, 6, 7, 8, 9, 10, 11] (.seq (.reg [⟨some 12, .mov (.t 4), none⟩, ⟨some 13, .un .not (.t 12), none⟩, ⟨some 3, .mov (.t 13), none⟩]) (.kl [4, 12, 13] (.ret)))))), [.tmp 3]⟩
-- lp182_0 HEAD [0, 1, 7, 8] | exit 0: [] | ret: [4]
/-- slices.IndexFunc[[]impl.Clue,impl.Clue] -/
def lb182_0 : C := .kl [18] (.seq (.reg [⟨some 9, .bin .lss (.t 8) (.t 7), none⟩]) (.seq (.cond (.t 9) (.skip) (.kl [0, 1, 7, 8, 9] (.exit 0))) (.kl [9] (.seq (.blk 1 (.seq (.reg [⟨some 10, .mov (.t 8), none⟩, ⟨some 5, .mov (.t 10), none⟩]) (.kl [10] (.seq (.reg [⟨some 11, .mov (.t 1), none⟩, ⟨some 12, .mov (.t 0), none⟩, ⟨some 13, .mov (.t 5), none⟩, ⟨some 14, .iaddr 3 (.t 12) (.t 13), none⟩, ⟨some 15, .load true 3 (.t 14), none⟩, ⟨some 16, .callv (.t 11) [.t 15], none⟩]) (.kl [11, 12, 13, 14, 15] (.cond (.t 16) (.kl [0, 1, 7, 8, 16] (.seq (.reg [⟨some 17, .mov (.t 5), none⟩, ⟨some 4, .mov (.t 17), none⟩]) (.kl [5, 17] (.ret)))) (.skip))))))) (.kl [5, 16] (.reg [⟨some 18, .bin .add (.t 8) (.c (.int .i64 1)), none⟩, ⟨some 8, .mov (.t 18), none⟩]))))))
def lp182_0 : C := lb182_0
def fi182 : FI := ⟨.seq (.reg [⟨some 4, .mov (.c (.int .i64 0)), none⟩]) (.kl [4] (.seq (.seq (.reg [⟨some 6, .mov (.t 0), none⟩, ⟨some 7, .lenV (.t 6), none⟩, ⟨some 8, .mov (.c (.int .i64 0)), none⟩]) (.kl [6] (.blk 0 (.loop lp182_0)))) (.seq (.reg [⟨some 4, .mov (.c (.int .i64 (-1))), none⟩]) (.ret)))), [.tmp 4]⟩
/-- spec.pzAll -/
def fi161 : FI := ⟨.seq (.reg [⟨some 4, .mov (.c (.nilS)), none⟩]) (.kl [4] (.seq (.reg [⟨some 5, .new [.nilS], none⟩]) (.seq (.reg [⟨some 6, .mov (.t 0), none⟩, ⟨some 7, .mov (.t 1), none⟩, ⟨some 8, .call 173 [.t 6, .t 7, .c (.str []), .t 5], none⟩]) (.kl [0, 1, 6, 7, 8] (.seq (.reg [⟨some 9, .load false 1 (.t 5), none⟩, ⟨some 4, .mov (.t 9), none⟩]) (.kl [5, 9] (.ret))))))), [.tmp 4]⟩
/-- impl.other -/
def fi109 : FI := ⟨.seq (.reg [⟨some 2, .mov (.c (.int .u8 0)), none⟩]) (.kl [2] (.seq (.seq (.reg [⟨some 3, .mov (.t 0), none⟩]) (.blk 0 (.seq (.reg [⟨some 5, .bin .eql (.t 3) (.c (.int .u8 84)), none⟩, ⟨some 4, .mov (.t 5), none⟩]) (.kl [5] (.cond (.t 4) (.kl [0, 3, 4] (.seq (.reg [⟨some 2, .mov (.c (.int .u8 70)), none⟩]) (.ret))) (.kl [4] (.seq (.reg [⟨some 7, .bin .eql (.t 3) (.c (.int .u8 70)), none⟩, ⟨some 6, .mov (.t 7), none⟩]) (.kl [3, 7] (.cond (.t 6) (.kl [0, 6] (.seq (.reg [⟨some 2, .mov (.c (.int .u8 84)), none⟩]) (.ret))) (.skip)))))))))) (.kl [6] (.seq (.reg [⟨some 8, .mov (.t 0), none⟩, ⟨some 2, .mov (.t 8), none⟩]) (.kl [0, 8] (.ret)))))), [.tmp 2]⟩
/-- impl.kindOf -/
def fi200 : FI := ⟨.seq (.reg [⟨some 2, .mov (.c (.str [])), none⟩]) (.kl [2] (.seq (.seq (.reg [⟨some 3, .mov (.t 0), none⟩]) (.kl [0] (.cond (.t 3) (.kl [3] (.seq (.reg [⟨some 2, .mov (.c (.str [84])), none⟩]) (.ret))) (.skip)))) (.kl [3] (.seq (.reg [⟨some 2, .mov (.c (.str [70])), none⟩]) (.ret))))), [.tmp 2]⟩
/-- slices.ContainsFunc[[]impl.Move,impl.Move] -/
def fi202 : FI := ⟨.seq (.reg [⟨some 4, .mov (.c (.bool false)), none⟩]) (.kl [4] (.seq (.reg [⟨some 5, .mov (.t 0), none⟩, ⟨some 6, .mov (.t 1), none⟩, ⟨some 7, .call 205 [.t 5, .t 6], none⟩, ⟨some 8, .bin .geq (.t 7) (.c (.int .i64 0)), none⟩, ⟨some 4, .mov (.t 8), none⟩]) (.kl [0, 1, 5, 6, 7, 8] (.ret)))), [.tmp 4]⟩
/-- (impl.games).win$1 -/
def fi201 : FI := ⟨.seq (.reg [⟨some 4, .box (.t 0), none⟩, ⟨some 5, .mov (.c (.bool false)), none⟩]) (.kl [0, 5] (.seq (.drw [⟨some 6, .load true 1 (.t 1), none⟩, ⟨some 7, .load false 1 (.t 2), none⟩, ⟨some 8, .load true 2 (.t 4), none⟩, ⟨some 9, .call 61 [.t 7, .t 8], none⟩, ⟨some 10, .load false 1 (.t 3), none⟩, ⟨some 11, .un .not (.t 10), none⟩, ⟨some 12, .call 198 [.t 6, .t 9, .t 11], none⟩, ⟨some 13, .un .not (.t 12), none⟩, ⟨some 5, .mov (.t 13), none⟩] [(0, 3), (4, 3)]) (.kl [1, 2, 3, 4, 6, 7, 8, 9, 10, 11, 12, 13] (.ret)))), [.tmp 5]⟩
/-- impl.made -/
def fi61 : FI := ⟨.seq (.reg [⟨some 3, .box (.t 1), none⟩, ⟨some 4, .mov (.c (.str [])), none⟩]) (.kl [1, 4] (.seq (.reg [⟨some 6, .mov (.t 0), none⟩, ⟨some 7, .toB (.t 6), none⟩, ⟨some 5, .mov (.t 7), none⟩]) (.kl [0, 6, 7] (.seq (.drw [⟨some 8, .mov (.t 5), none⟩, ⟨some 9, .faddr 1 1 (.t 3), none⟩, ⟨some 10, .load false 1 (.t 9), none⟩, ⟨some 11, .mov (.t 5), none⟩, ⟨some 12, .faddr 0 1 (.t 3), none⟩, ⟨some 13, .load false 1 (.t 12), none⟩, ⟨some 14, .mov (.t 5), none⟩, ⟨some 15, .faddr 0 1 (.t 3), none⟩, ⟨some 16, .load false 1 (.t 15), none⟩, ⟨some 17, .iaddr 1 (.t 14) (.t 16), none⟩, ⟨some 18, .load false 1 (.t 17), none⟩, ⟨some 19, .iaddr 1 (.t 8) (.t 10), none⟩, ⟨none, .store 1 (.t 19) (.t 18), none⟩, ⟨some 20, .iaddr 1 (.t 11) (.t 13), none⟩, ⟨none, .store 1 (.t 20) (.c (.int .u8 46)), none⟩] [(5, 12)]) (.kl [3, 8, 9, 10, 11, 12, 13, 14, 15, 16, 17, 18, 19, 20] (.seq (.reg [⟨some 21, .mov (.t 5), none⟩, ⟨some 22, .ofB (.t 21), none⟩, ⟨some 4, .mov (.t 22), none⟩]) (.kl [5, 21, 22] (.ret)))))))), [.tmp 4]⟩
-- lp203_0 HEAD [5, 9, 10, 11] | exit 0: [5]
/-- spec.gaKey -/
def lb203_0 : C := .kl [19] (.seq (.reg [⟨some 12, .bin .lss (.t 11) (.t 10), none⟩]) (.seq (.cond (.t 12) (.skip) (.kl [9, 10, 11, 12] (.exit 0))) (.kl [12] (.seq (.blk 1 (.seq (.reg [⟨some 13, .iaddr 1 (.t 9) (.t 11), none⟩, ⟨some 14, .load false 1 (.t 13), none⟩, ⟨some 7, .mov (.t 14), none⟩]) (.kl [13, 14] (.reg [⟨some 15, .mov (.t 5), none⟩, ⟨some 16, .mov (.t 7), none⟩, ⟨some 17, .bin .add (.c (.str [47])) (.t 16), none⟩, ⟨some 18, .bin .add (.t 15) (.t 17), none⟩, ⟨some 5, .mov (.t 18), none⟩])))) (.kl [7, 15, 16, 17, 18] (.reg [⟨some 19, .bin .add (.t 11) (.c (.int .i64 1)), none⟩, ⟨some 11, .mov (.t 19), none⟩]))))))
def lp203_0 : C := lb203_0
def fi203 : FI := ⟨.seq (.reg [⟨some 4, .mov (.c (.str [])), none⟩]) (.kl [4] (.seq (.reg [⟨some 5, .mov (.c (.str [102])), none⟩]) (.seq (.seq (.reg [⟨some 8, .mov (.t 1), none⟩]) (.kl [1] (.cond (.t 8) (.kl [5, 8] (.reg [⟨some 5, .mov (.c (.str [116])), none⟩])) (.skip)))) (.kl [8] (.seq (.seq (.reg [⟨some 9, .mov (.t 0), none⟩, ⟨some 10, .lenV (.t 9), none⟩, ⟨some 11, .mov (.c (.int .i64 0)), none⟩]) (.kl [0] (.blk 0 (.loop lp203_0)))) (.seq (.reg [⟨some 20, .mov (.t 5), none⟩, ⟨some 4, .mov (.t 20), none⟩]) (.kl [5, 20] (.ret)))))))), [.tmp 4]⟩
-- lp119_0 HEAD [0, 1, 2, 7, 12] | exit 0: [7] | exit 1: [0, 1, 2, 7, 12] | exit 2: [0, 1, 2, 7, 12]
-- lp119_1 HEAD [0, 1, 2, 7, 8, 9, 12] | exit 2: [0, 1, 2, 7, 12]
/-- spec.liMoves -/
def lb119_1 : C := .kl [40, 41] (.seq (.seq (.reg [⟨some 36, .mov (.t 9), none⟩, ⟨some 37, .mov (.t 8), none⟩, ⟨some 38, .bin .add (.t 37) (.c (.int .i64 2)), none⟩, ⟨some 39, .bin .leq (.t 36) (.t 38), none⟩]) (.kl [36, 37, 38] (.cond (.t 39) (.skip) (.kl [8, 9, 39] (.exit 2))))) (.kl [39] (.seq (.blk 3 (.seq (.reg [⟨some 42, .mov (.t 8), none⟩, ⟨some 43, .mov (.t 9), none⟩, ⟨some 44, .build [.int .i64 0, .int .i64 0] [(0, 1, .t 42), (1, 1, .t 43)], none⟩, ⟨some 10, .new [.int .i64 0, .int .i64 0], none⟩, ⟨none, .store 2 (.t 10) (.t 44), none⟩]) (.kl [42, 43, 44] (.seq (.reg [⟨some 45, .mov (.t 0), none⟩, ⟨some 46, .load true 2 (.t 10), none⟩, ⟨some 47, .call 130 [.t 45, .t 46], none⟩]) (.kl [45, 46] (.cond (.t 47) (.kl [47] (.reg [⟨some 48, .mov (.t 7), none⟩, ⟨some 49, .load true 2 (.t 10), none⟩, ⟨some 50, .lit 2 1 [.int .i64 0, .int .i64 0] [(0, 2, .t 49)], none⟩, ⟨some 51, .app 2 (.t 48) (.t 50), none⟩, ⟨some 7, .mov (.t 51), none⟩])) (.skip))))))) (.kl [10, 47, 48, 49, 50, 51] (.reg [⟨some 40, .mov (.t 9), none⟩, ⟨some 41, .bin .add (.t 40) (.c (.int .i64 1)), none⟩, ⟨some 9, .mov (.t 41), none⟩])))))
def lp119_1 : C := lb119_1
def lb119_0 : C := .kl [] (.seq (.reg [⟨some 13, .nxt (.t 12), none⟩, ⟨some 14, .prj 0 (.t 13), none⟩]) (.seq (.cond (.t 14) (.skip) (.kl [0, 1, 2, 12, 13, 14] (.exit 0))) (.kl [14] (.blk 1 (.seq (.reg [⟨some 15, .prj 1 (.t 13), none⟩, ⟨some 8, .mov (.t 15), none⟩]) (.kl [13, 15] (.seq (.seq (.reg [⟨some 16, .mov (.t 0), none⟩, ⟨some 17, .mov (.t 8), none⟩, ⟨some 18, .idxS (.t 16) (.t 17), none⟩, ⟨some 19, .bin .eql (.t 18) (.c (.int .u8 84)), none⟩, ⟨some 20, .mov (.t 19), none⟩, ⟨some 21, .mov (.t 1), some (20, true)⟩, ⟨some 22, .un .not (.t 21), some (20, true)⟩, ⟨some 23, .pick (.t 20) (.t 22) (.c (.bool false)), none⟩, ⟨some 24, .mov (.t 23), none⟩, ⟨some 25, .mov (.t 0), some (24, false)⟩, ⟨some 26, .mov (.t 8), some (24, false)⟩, ⟨some 27, .idxS (.t 25) (.t 26), some (24, false)⟩, ⟨some 28, .bin .eql (.t 27) (.c (.int .u8 70)), some (24, false)⟩, ⟨some 29, .mov (.t 28), some (24, false)⟩, ⟨some 30, .mov (.t 2), some (29, true)⟩, ⟨some 31, .un .not (.t 30), some (29, true)⟩, ⟨some 32, .pick (.t 29) (.t 31) (.c (.bool false)), some (24, false)⟩, ⟨some 33, .pick (.t 24) (.c (.bool true)) (.t 32), none⟩]) (.kl [16, 17, 18, 19, 20, 21, 22, 23, 24, 25, 26, 27, 28, 29, 30, 31, 32] (.cond (.t 33) (.kl [8, 33] (.exit 1)) (.skip)))) (.kl [33] (.seq (.reg [⟨some 34, .mov (.t 8), none⟩, ⟨some 35, .bin .sub (.t 34) (.c (.int .i64 2)), none⟩, ⟨some 9, .mov (.t 35), none⟩]) (.kl [34, 35] (.blk 2 (.loop lp119_1))))))))))))
def lp119_0 : C := lb119_0
def fi119 : FI := ⟨.seq (.reg [⟨some 6, .mov (.c (.nilS)), none⟩]) (.kl [6] (.seq (.reg [⟨some 7, .mov (.c (.nilS)), none⟩]) (.seq (.seq (.reg [⟨some 11, .mov (.t 0), none⟩, ⟨some 12, .rng (.t 11), none⟩]) (.kl [11] (.blk 0 (.loop lp119_0)))) (.seq (.reg [⟨some 52, .mov (.t 7), none⟩, ⟨some 6, .mov (.t 52), none⟩]) (.kl [7, 52] (.ret)))))), [.tmp 6]⟩
/-- spec.gaWith -/
def fi204 : FI := ⟨.seq (.reg [⟨some 6, .mov (.c (.nilS)), none⟩]) (.kl [6] (.seq (.reg [⟨some 8, .mov (.t 0), none⟩, ⟨some 9, .call 206 [.t 8], none⟩, ⟨some 7, .mov (.t 9), none⟩]) (.kl [0, 8, 9] (.seq (.reg [⟨some 10, .mov (.t 7), none⟩, ⟨some 11, .mov (.t 1), none⟩, ⟨some 12, .mov (.t 2), none⟩, ⟨some 13, .iaddr 1 (.t 10) (.t 11), none⟩, ⟨none, .store 1 (.t 13) (.t 12), none⟩]) (.kl [1, 2, 10, 11, 12, 13] (.seq (.reg [⟨some 14, .mov (.t 7), none⟩, ⟨some 6, .mov (.t 14), none⟩]) (.kl [7, 14] (.ret)))))))), [.tmp 6]⟩
/-- spec.liMake -/
def fi66 : FI := ⟨.seq (.reg [⟨some 3, .box (.t 1), none⟩, ⟨some 4, .mov (.c (.str [])), none⟩]) (.kl [1, 4] (.seq (.reg [⟨some 6, .mov (.t 0), none⟩, ⟨some 7, .faddr 0 1 (.t 3), none⟩, ⟨some 8, .load false 1 (.t 7), none⟩, ⟨some 9, .faddr 0 1 (.t 3), none⟩, ⟨some 10, .load false 1 (.t 9), none⟩, ⟨some 11, .bin .add (.t 10) (.c (.int .i64 1)), none⟩, ⟨some 12, .subS (.t 6) (some (.t 8)) (some (.t 11)), none⟩, ⟨some 5, .mov (.t 12), none⟩]) (.kl [6, 7, 8, 9, 10, 11, 12] (.seq (.drw [⟨some 13, .mov (.t 0), none⟩, ⟨some 14, .faddr 0 1 (.t 3), none⟩, ⟨some 15, .load false 1 (.t 14), none⟩, ⟨some 16, .call 108 [.t 13, .t 15, .c (.str [46])], none⟩, ⟨some 17, .faddr 1 1 (.t 3), none⟩, ⟨some 18, .load false 1 (.t 17), none⟩, ⟨some 19, .mov (.t 5), none⟩, ⟨some 20, .call 108 [.t 16, .t 18, .t 19], none⟩, ⟨some 4, .mov (.t 20), none⟩] [(5, 3)]) (.kl [0, 3, 5, 13, 14, 15, 16, 17, 18, 19, 20] (.ret)))))), [.tmp 4]⟩
-- lp124_0 HEAD [0, 1, 5] | exit 0: [5]
/-- spec.liTimes -/
def lb124_0 : C := .kl [8, 9] (.seq (.seq (.reg [⟨some 6, .mov (.t 1), none⟩, ⟨some 7, .bin .gtr (.t 6) (.c (.int .i64 0)), none⟩]) (.kl [6] (.cond (.t 7) (.skip) (.kl [0, 1, 7] (.exit 0))))) (.kl [7] (.seq (.blk 1 (.reg [⟨some 10, .mov (.t 5), none⟩, ⟨some 11, .mov (.t 0), none⟩, ⟨some 12, .bin .add (.t 10) (.t 11), none⟩, ⟨some 5, .mov (.t 12), none⟩])) (.kl [10, 11, 12] (.reg [⟨some 8, .mov (.t 1), none⟩, ⟨some 9, .bin .sub (.t 8) (.c (.int .i64 1)), none⟩, ⟨some 1, .mov (.t 9), none⟩])))))
def lp124_0 : C := lb124_0
def fi124 : FI := ⟨.seq (.reg [⟨some 4, .mov (.c (.str [])), none⟩]) (.kl [4] (.seq (.reg [⟨some 5, .mov (.c (.str [])), none⟩]) (.seq (.blk 0 (.loop lp124_0)) (.seq (.reg [⟨some 13, .mov (.t 5), none⟩, ⟨some 4, .mov (.t 13), none⟩]) (.kl [5, 13] (.ret)))))), [.tmp 4]⟩
/-- (*spec.l1Cur).of -/
def fi71 : FI := ⟨.seq (.reg [⟨some 4, .mov (.c (.str [])), none⟩]) (.kl [4] (.seq (.reg [⟨some 5, .mov (.t 1), none⟩, ⟨some 6, .mov (.t 0), none⟩, ⟨some 7, .mov (.t 1), none⟩, ⟨some 8, .lenV (.t 7), none⟩, ⟨some 9, .call 63 [.t 6, .t 8], none⟩, ⟨some 10, .iaddr 1 (.t 5) (.t 9), none⟩, ⟨some 11, .load false 1 (.t 10), none⟩, ⟨some 4, .mov (.t 11), none⟩]) (.kl [0, 1, 5, 6, 7, 8, 9, 10, 11] (.ret)))), [.tmp 4]⟩
/-- spec.liFirst -/
def fi100 : FI := ⟨.seq (.reg [⟨some 6, .mov (.c (.str [])), none⟩]) (.kl [6] (.seq (.reg [⟨some 7, .mov (.t 0), none⟩, ⟨some 8, .call 124 [.c (.str [84]), .t 7], none⟩, ⟨some 9, .mov (.t 1), none⟩, ⟨some 10, .call 124 [.c (.str [46]), .t 9], none⟩, ⟨some 11, .bin .add (.t 8) (.t 10), none⟩, ⟨some 12, .mov (.t 2), none⟩, ⟨some 13, .call 124 [.c (.str [70]), .t 12], none⟩, ⟨some 14, .bin .add (.t 11) (.t 13), none⟩, ⟨some 6, .mov (.t 14), none⟩]) (.kl [0, 1, 2, 7, 8, 9, 10, 11, 12, 13, 14] (.ret)))), [.tmp 6]⟩
-- lp116_0 HEAD [0, 1, 5, 6] | exit 0: [5]
/-- spec.liCount -/
def lb116_0 : C := .kl [11, 12] (.seq (.seq (.reg [⟨some 7, .mov (.t 6), none⟩, ⟨some 8, .mov (.t 0), none⟩, ⟨some 9, .lenS (.t 8), none⟩, ⟨some 10, .bin .lss (.t 7) (.t 9), none⟩]) (.kl [7, 8, 9] (.cond (.t 10) (.skip) (.kl [0, 1, 6, 10] (.exit 0))))) (.kl [10] (.seq (.blk 1 (.seq (.reg [⟨some 13, .mov (.t 0), none⟩, ⟨some 14, .mov (.t 6), none⟩, ⟨some 15, .idxS (.t 13) (.t 14), none⟩, ⟨some 16, .mov (.t 1), none⟩, ⟨some 17, .bin .eql (.t 15) (.t 16), none⟩]) (.kl [13, 14, 15, 16] (.cond (.t 17) (.kl [17] (.reg [⟨some 18, .mov (.t 5), none⟩, ⟨some 19, .bin .add (.t 18) (.c (.int .i64 1)), none⟩, ⟨some 5, .mov (.t 19), none⟩])) (.skip))))) (.kl [17, 18, 19] (.reg [⟨some 11, .mov (.t 6), none⟩, ⟨some 12, .bin .add (.t 11) (.c (.int .i64 1)), none⟩, ⟨some 6, .mov (.t 12), none⟩])))))
def lp116_0 : C := lb116_0
def fi116 : FI := ⟨.seq (.reg [⟨some 4, .mov (.c (.int .i64 0)), none⟩]) (.kl [4] (.seq (.reg [⟨some 5, .mov (.c (.int .i64 0)), none⟩]) (.seq (.seq (.reg [⟨some 6, .mov (.c (.int .i64 0)), none⟩]) (.blk 0 (.loop lp116_0))) (.seq (.reg [⟨some 20, .mov (.t 5), none⟩, ⟨some 4, .mov (.t 20), none⟩]) (.kl [5, 20] (.ret)))))), [.tmp 4]⟩
/-- spec.liPut -/
def fi108 : FI := ⟨.seq (.reg [⟨some 6, .mov (.c (.str [])), none⟩]) (.kl [6] (.seq (.drw [⟨some 7, .mov (.t 0), none⟩, ⟨some 8, .mov (.t 1), none⟩, ⟨some 9, .subS (.t 7) none (some (.t 8)), none⟩, ⟨some 10, .mov (.t 2), none⟩, ⟨some 11, .bin .add (.t 9) (.t 10), none⟩, ⟨some 12, .mov (.t 0), none⟩, ⟨some 13, .mov (.t 1), none⟩, ⟨some 14, .bin .add (.t 13) (.c (.int .i64 1)), none⟩, ⟨some 15, .subS (.t 12) (some (.t 14)) none, none⟩, ⟨some 16, .bin .add (.t 11) (.t 15), none⟩, ⟨some 6, .mov (.t 16), none⟩] []) (.kl [0, 1, 2, 7, 8, 9, 10, 11, 12, 13, 14, 15, 16] (.ret)))), [.tmp 6]⟩
/-- (*spec.l1Cur).next -/
def fi107 : FI := ⟨.seq (.reg [⟨some 2, .mov (.c (.int .i64 0)), none⟩]) (.kl [2] (.seq (.reg [⟨some 3, .mov (.c (.int .i64 0)), none⟩]) (.seq (.seq (.drw [⟨some 4, .mov (.t 0), none⟩, ⟨some 5, .nck (.t 4), none⟩, ⟨some 6, .faddr 1 1 (.t 5), none⟩, ⟨some 7, .load false 1 (.t 6), none⟩, ⟨some 8, .mov (.t 0), none⟩, ⟨some 9, .nck (.t 8), none⟩, ⟨some 10, .faddr 0 1 (.t 9), none⟩, ⟨some 11, .load false 1 (.t 10), none⟩, ⟨some 12, .lenV (.t 11), none⟩, ⟨some 13, .bin .lss (.t 7) (.t 12), none⟩] []) (.kl [4, 5, 6, 7, 8, 9, 10, 11, 12] (.cond (.t 13) (.kl [3, 13] (.drw [⟨some 14, .mov (.t 0), none⟩, ⟨some 15, .nck (.t 14), none⟩, ⟨some 16, .faddr 0 1 (.t 15), none⟩, ⟨some 17, .load false 1 (.t 16), none⟩, ⟨some 18, .mov (.t 0), none⟩, ⟨some 19, .nck (.t 18), none⟩, ⟨some 20, .faddr 1 1 (.t 19), none⟩, ⟨some 21, .load false 1 (.t 20), none⟩, ⟨some 22, .iaddr 1 (.t 17) (.t 21), none⟩, ⟨some 23, .load false 1 (.t 22), none⟩, ⟨some 24, .conv .i64 (.t 23), none⟩, ⟨some 3, .mov (.t 24), none⟩] [])) (.skip)))) (.kl [13, 14, 15, 16, 17, 18, 19, 20, 21, 22, 23, 24] (.seq (.reg [⟨some 25, .mov (.t 0), none⟩, ⟨some 26, .nck (.t 25), none⟩, ⟨some 27, .faddr 1 1 (.t 26), none⟩, ⟨some 28, .load false 1 (.t 27), none⟩, ⟨some 29, .bin .add (.t 28) (.c (.int .i64 1)), none⟩, ⟨some 30, .nck (.t 25), none⟩, ⟨some 31, .faddr 1 1 (.t 30), none⟩, ⟨none, .store 1 (.t 31) (.t 29), none⟩]) (.kl [25, 26, 27, 28, 29, 30, 31] (.seq (.reg [⟨some 32, .mov (.t 0), none⟩, ⟨some 33, .mov (.t 0), none⟩, ⟨some 34, .nck (.t 33), none⟩, ⟨some 35, .faddr 2 1 (.t 34), none⟩, ⟨some 36, .load false 1 (.t 35), none⟩, ⟨some 37, .bin .mul (.t 36) (.c (.int .u64 6364136223846793005)), none⟩, ⟨some 38, .mov (.t 3), none⟩, ⟨some 39, .conv .u64 (.t 38), none⟩, ⟨some 40, .bin .add (.t 37) (.t 39), none⟩, ⟨some 41, .bin .add (.t 40) (.c (.int .u64 1442695040888963407)), none⟩, ⟨some 42, .nck (.t 32), none⟩, ⟨some 43, .faddr 2 1 (.t 42), none⟩, ⟨none, .store 1 (.t 43) (.t 41), none⟩]) (.kl [32, 33, 34, 35, 36, 37, 38, 39, 40, 41, 42, 43] (.seq (.seq (.drw [⟨some 44, .mov (.t 0), none⟩, ⟨some 45, .nck (.t 44), none⟩, ⟨some 46, .faddr 1 1 (.t 45), none⟩, ⟨some 47, .load false 1 (.t 46), none⟩, ⟨some 48, .mov (.t 0), none⟩, ⟨some 49, .nck (.t 48), none⟩, ⟨some 50, .faddr 0 1 (.t 49), none⟩, ⟨some 51, .load false 1 (.t 50), none⟩, ⟨some 52, .lenV (.t 51), none⟩, ⟨some 53, .bin .leq (.t 47) (.t 52), none⟩] []) (.kl [44, 45, 46, 47, 48, 49, 50, 51, 52] (.cond (.t 53) (.kl [0, 53] (.seq (.reg [⟨some 54, .mov (.t 3), none⟩, ⟨some 2, .mov (.t 54), none⟩]) (.kl [3, 54] (.ret)))) (.skip)))) (.kl [3, 53] (.seq (.reg [⟨some 55, .mov (.t 0), none⟩, ⟨some 56, .nck (.t 55), none⟩, ⟨some 57, .faddr 2 1 (.t 56), none⟩, ⟨some 58, .load false 1 (.t 57), none⟩, ⟨some 59, .bin .shr (.t 58) (.c (.int .u64 40)), none⟩, ⟨some 60, .bin .and (.t 59) (.c (.int .u64 255)), none⟩, ⟨some 61, .conv .i64 (.t 60), none⟩, ⟨some 2, .mov (.t 61), none⟩]) (.kl [0, 55, 56, 57, 58, 59, 60, 61] (.ret))))))))))))), [.tmp 2]⟩
/-- (*spec.l1Cur).surePuzzle -/
def fi610 : FI := ⟨.seq (.reg [⟨some 4, .new [.int .i64 0, .nilS], none⟩]) (.seq (.reg [⟨some 8, .mov (.t 0), none⟩, ⟨some 9, .call 99 [.t 8, .c (.int .i64 4)], none⟩, ⟨some 10, .mov (.t 0), none⟩, ⟨some 11, .mov (.t 1), none⟩, ⟨some 12, .bin .add (.t 11) (.c (.int .i64 1)), none⟩, ⟨some 13, .call 63 [.t 10, .t 12], none⟩, ⟨some 14, .mov (.t 0), none⟩, ⟨some 15, .call 63 [.t 14, .c (.int .i64 10000)], none⟩, ⟨some 16, .call 541 [.t 9, .t 13, .t 15], none⟩, ⟨some 7, .mov (.t 16), none⟩, ⟨some 17, .prj 0 (.t 7), none⟩, ⟨some 18, .prj 1 (.t 7), none⟩, ⟨some 5, .new [.int .i64 0, .nilS], none⟩, ⟨none, .store 2 (.t 5) (.t 17), none⟩, ⟨some 6, .mov (.t 18), none⟩]) (.kl [0, 1, 6, 7, 8, 9, 10, 11, 12, 13, 14, 15, 16, 17, 18] (.seq (.reg [⟨some 19, .load true 2 (.t 5), none⟩, ⟨none, .store 2 (.t 4) (.t 19), none⟩]) (.kl [5, 19] (.ret))))), [.cell true 2 4]⟩
/-- impl.stepOf -/
def fi103 : FI := ⟨.seq (.reg [⟨some 2, .mov (.c (.int .i64 0)), none⟩]) (.kl [2] (.seq (.seq (.reg [⟨some 3, .mov (.t 0), none⟩]) (.kl [0] (.blk 0 (.seq (.reg [⟨some 5, .bin .eql (.t 3) (.c (.int .u8 84)), none⟩, ⟨some 4, .mov (.t 5), none⟩]) (.kl [5] (.cond (.t 4) (.kl [3, 4] (.seq (.reg [⟨some 2, .mov (.c (.int .i64 1)), none⟩]) (.ret))) (.kl [4] (.seq (.reg [⟨some 7, .bin .eql (.t 3) (.c (.int .u8 70)), none⟩, ⟨some 6, .mov (.t 7), none⟩]) (.kl [3, 7] (.cond (.t 6) (.kl [6] (.seq (.reg [⟨some 2, .mov (.c (.int .i64 (-1))), none⟩]) (.ret))) (.skip))))))))))) (.kl [6] (.seq (.reg [⟨some 2, .mov (.c (.int .i64 0)), none⟩]) (.ret))))), [.tmp 2]⟩
-- lp184_0 HEAD [0, 1, 7, 8] | exit 0: [] | ret: [4]
/-- slices.IndexFunc[[]string,string] -/
def lb184_0 : C := .kl [18] (.seq (.reg [⟨some 9, .bin .lss (.t 8) (.t 7), none⟩]) (.seq (.cond (.t 9) (.skip) (.kl [0, 1, 7, 8, 9] (.exit 0))) (.kl [9] (.seq (.blk 1 (.seq (.reg [⟨some 10, .mov (.t 8), none⟩, ⟨some 5, .mov (.t 10), none⟩]) (.kl [10] (.seq (.reg [⟨some 11, .mov (.t 1), none⟩, ⟨some 12, .mov (.t 0), none⟩, ⟨some 13, .mov (.t 5), none⟩, ⟨some 14, .iaddr 1 (.t 12) (.t 13), none⟩, ⟨some 15, .load false 1 (.t 14), none⟩, ⟨some 16, .callv (.t 11) [.t 15], none⟩]) (.kl [11, 12, 13, 14, 15] (.cond (.t 16) (.kl [0, 1, 7, 8, 16] (.seq (.reg [⟨some 17, .mov (.t 5), none⟩, ⟨some 4, .mov (.t 17), none⟩]) (.kl [5, 17] (.ret)))) (.skip))))))) (.kl [5, 16] (.reg [⟨some 18, .bin .add (.t 8) (.c (.int .i64 1)), none⟩, ⟨some 8, .mov (.t 18), none⟩]))))))
def lp184_0 : C := lb184_0
def fi184 : FI := ⟨.seq (.reg [⟨some 4, .mov (.c (.int .i64 0)), none⟩]) (.kl [4] (.seq (.seq (.reg [⟨some 6, .mov (.t 0), none⟩, ⟨some 7, .lenV (.t 6), none⟩, ⟨some 8, .mov (.c (.int .i64 0)), none⟩]) (.kl [6] (.blk 0 (.loop lp184_0)))) (.seq (.reg [⟨some 4, .mov (.c (.int .i64 (-1))), none⟩]) (.ret)))), [.tmp 4]⟩
/-- spec.l1OwnS -/
def fi206 : FI := ⟨.seq (.reg [⟨some 2, .mov (.c (.nilS)), none⟩]) (.kl [2] (.seq (.reg [⟨some 3, .lit0, none⟩, ⟨some 4, .mov (.t 0), none⟩, ⟨some 5, .app 1 (.t 3) (.t 4), none⟩, ⟨some 2, .mov (.t 5), none⟩]) (.kl [0, 3, 4, 5] (.ret)))), [.tmp 2]⟩
/-- impl.goal -/
def fi127 : FI := ⟨.seq (.reg [⟨some 4, .mov (.c (.int .i64 0)), none⟩, ⟨some 5, .mov (.c (.bool false)), none⟩]) (.kl [4, 5] (.seq (.reg [⟨some 7, .mov (.t 0), none⟩, ⟨some 8, .mov (.t 1), none⟩, ⟨some 9, .idxS (.t 7) (.t 8), none⟩, ⟨some 10, .call 103 [.t 9], none⟩, ⟨some 6, .mov (.t 10), none⟩]) (.kl [7, 8, 9, 10] (.seq (.blk 0 (.seq (.reg [⟨some 12, .mov (.t 6), none⟩, ⟨some 13, .bin .eql (.t 12) (.c (.int .i64 0)), none⟩, ⟨some 11, .mov (.t 13), none⟩]) (.kl [12, 13] (.cond (.t 11) (.skip) (.kl [11] (.seq (.reg [⟨some 15, .mov (.t 0), none⟩, ⟨some 16, .mov (.t 1), none⟩, ⟨some 17, .mov (.t 6), none⟩, ⟨some 18, .bin .add (.t 16) (.t 17), none⟩, ⟨some 19, .call 125 [.t 15, .t 18], none⟩, ⟨some 20, .bin .eql (.t 19) (.c (.int .u8 46)), none⟩, ⟨some 14, .mov (.t 20), none⟩]) (.kl [15, 16, 17, 18, 19, 20] (.cond (.t 14) (.kl [0, 14] (.seq (.reg [⟨some 21, .mov (.t 1), none⟩, ⟨some 22, .mov (.t 6), none⟩, ⟨some 23, .bin .add (.t 21) (.t 22), none⟩, ⟨some 4, .mov (.t 23), none⟩, ⟨some 5, .mov (.c (.bool true)), none⟩]) (.kl [1, 6, 21, 22, 23] (.ret)))) (.kl [14] (.seq (.drw [⟨some 25, .mov (.t 0), none⟩, ⟨some 26, .mov (.t 1), none⟩, ⟨some 27, .mov (.t 6), none⟩, ⟨some 28, .bin .add (.t 26) (.t 27), none⟩, ⟨some 29, .call 125 [.t 25, .t 28], none⟩, ⟨some 30, .mov (.t 0), none⟩, ⟨some 31, .mov (.t 1), none⟩, ⟨some 32, .idxS (.t 30) (.t 31), none⟩, ⟨some 33, .call 109 [.t 32], none⟩, ⟨some 34, .bin .eql (.t 29) (.t 33), none⟩, ⟨some 35, .mov (.t 34), none⟩, ⟨some 36, .mov (.t 0), some (35, true)⟩, ⟨some 37, .mov (.t 1), some (35, true)⟩, ⟨some 38, .mov (.t 6), some (35, true)⟩, ⟨some 39, .bin .mul (.c (.int .i64 2)) (.t 38), some (35, true)⟩, ⟨some 40, .bin .add (.t 37) (.t 39), some (35, true)⟩, ⟨some 41, .call 125 [.t 36, .t 40], some (35, true)⟩, ⟨some 42, .bin .eql (.t 41) (.c (.int .u8 46)), some (35, true)⟩, ⟨some 43, .pick (.t 35) (.t 42) (.c (.bool false)), none⟩, ⟨some 24, .mov (.t 43), none⟩] []) (.kl [0, 25, 26, 27, 28, 29, 30, 31, 32, 33, 34, 35, 36, 37, 38, 39, 40, 41, 42, 43] (.cond (.t 24) (.kl [24] (.seq (.reg [⟨some 44, .mov (.t 1), none⟩, ⟨some 45, .mov (.t 6), none⟩, ⟨some 46, .bin .mul (.c (.int .i64 2)) (.t 45), none⟩, ⟨some 47, .bin .add (.t 44) (.t 46), none⟩, ⟨some 4, .mov (.t 47), none⟩, ⟨some 5, .mov (.c (.bool true)), none⟩]) (.kl [1, 6, 44, 45, 46, 47] (.ret)))) (.skip))))))))))))) (.kl [0, 1, 6, 11, 24] (.seq (.reg [⟨some 4, .mov (.c (.int .i64 0)), none⟩, ⟨some 5, .mov (.c (.bool false)), none⟩]) (.ret))))))), [.tmp 4, .tmp 5]⟩
-- lp195_0 HEAD [0, 1, 7] | exit 0: [] | ret: [4]
/-- spec.pzIndex -/
def lb195_0 : C := .kl [5, 17] (.seq (.reg [⟨some 8, .nxt (.t 7), none⟩, ⟨some 9, .prj 0 (.t 8), none⟩]) (.seq (.cond (.t 9) (.skip) (.kl [0, 1, 7, 8, 9] (.exit 0))) (.kl [9] (.blk 1 (.seq (.reg [⟨some 10, .prj 1 (.t 8), none⟩, ⟨some 5, .mov (.t 10), none⟩]) (.kl [8, 10] (.seq (.reg [⟨some 11, .mov (.t 0), none⟩, ⟨some 12, .mov (.t 5), none⟩, ⟨some 13, .mov (.t 5), none⟩, ⟨some 14, .bin .add (.t 13) (.c (.int .i64 1)), none⟩, ⟨some 15, .subS (.t 11) (some (.t 12)) (some (.t 14)), none⟩, ⟨some 16, .mov (.t 1), none⟩, ⟨some 17, .bin .eql (.t 15) (.t 16), none⟩]) (.kl [11, 12, 13, 14, 15, 16] (.cond (.t 17) (.kl [0, 1, 7, 17] (.seq (.reg [⟨some 18, .mov (.t 5), none⟩, ⟨some 4, .mov (.t 18), none⟩]) (.kl [5, 18] (.ret)))) (.skip))))))))))
def lp195_0 : C := lb195_0
def fi195 : FI := ⟨.seq (.reg [⟨some 4, .mov (.c (.int .i64 0)), none⟩]) (.kl [4] (.seq (.seq (.reg [⟨some 6, .mov (.t 0), none⟩, ⟨some 7, .rng (.t 6), none⟩]) (.kl [6] (.blk 0 (.loop lp195_0)))) (.seq (.reg [⟨some 4, .mov (.c (.int .i64 0)), none⟩]) (.ret)))), [.tmp 4]⟩
-- lp196_0 HEAD [0, 3, 4, 5] | exit 0: [3]
/-- spec.liPairs -/
def lb196_0 : C := .kl [10, 11] (.seq (.seq (.reg [⟨some 6, .mov (.t 5), none⟩, ⟨some 7, .mov (.t 0), none⟩, ⟨some 8, .lenS (.t 7), none⟩, ⟨some 9, .bin .lss (.t 6) (.t 8), none⟩]) (.kl [6, 7, 8] (.cond (.t 9) (.skip) (.kl [0, 4, 5, 9] (.exit 0))))) (.kl [9] (.seq (.blk 1 (.seq (.reg [⟨some 12, .mov (.t 0), none⟩, ⟨some 13, .mov (.t 5), none⟩, ⟨some 14, .idxS (.t 12) (.t 13), none⟩]) (.kl [12, 13] (.blk 2 (.seq (.reg [⟨some 16, .bin .eql (.t 14) (.c (.int .u8 84)), none⟩, ⟨some 15, .mov (.t 16), none⟩]) (.kl [16] (.cond (.t 15) (.kl [14, 15] (.reg [⟨some 17, .mov (.t 4), none⟩, ⟨some 18, .bin .add (.t 17) (.c (.int .i64 1)), none⟩, ⟨some 4, .mov (.t 18), none⟩])) (.kl [15] (.seq (.reg [⟨some 20, .bin .eql (.t 14) (.c (.int .u8 70)), none⟩, ⟨some 19, .mov (.t 20), none⟩]) (.kl [14, 20] (.cond (.t 19) (.kl [19] (.reg [⟨some 21, .mov (.t 3), none⟩, ⟨some 22, .mov (.t 4), none⟩, ⟨some 23, .bin .add (.t 21) (.t 22), none⟩, ⟨some 3, .mov (.t 23), none⟩])) (.skip)))))))))))) (.kl [17, 18, 19, 21, 22, 23] (.reg [⟨some 10, .mov (.t 5), none⟩, ⟨some 11, .bin .add (.t 10) (.c (.int .i64 1)), none⟩, ⟨some 5, .mov (.t 11), none⟩])))))
def lp196_0 : C := lb196_0
def fi196 : FI := ⟨.seq (.reg [⟨some 2, .mov (.c (.int .i64 0)), none⟩]) (.kl [2] (.seq (.reg [⟨some 3, .mov (.c (.int .i64 0)), none⟩, ⟨some 4, .mov (.c (.int .i64 0)), none⟩]) (.seq (.seq (.reg [⟨some 5, .mov (.c (.int .i64 0)), none⟩]) (.blk 0 (.loop lp196_0))) (.seq (.reg [⟨some 24, .mov (.t 3), none⟩, ⟨some 2, .mov (.t 24), none⟩]) (.kl [3, 24] (.ret)))))), [.tmp 2]⟩
-- lp173_0 HEAD [2, 3, 16, 17, 18] | exit 0: [2, 3] | ret: []
-- lp173_1 HEAD [0, 1, 2, 3, 35, 36, 37] | exit 2: []
/-- spec.pzLook -/
def lb173_1 : C := .kl [48] (.seq (.reg [⟨some 38, .bin .lss (.t 37) (.t 36), none⟩]) (.seq (.cond (.t 38) (.skip) (.kl [0, 1, 2, 3, 35, 36, 37, 38] (.exit 2))) (.kl [38] (.seq (.blk 3 (.seq (.reg [⟨some 39, .iaddr 1 (.t 35) (.t 37), none⟩, ⟨some 40, .load false 1 (.t 39), none⟩, ⟨some 11, .mov (.t 40), none⟩]) (.kl [39, 40] (.reg [⟨some 41, .mov (.t 0), none⟩, ⟨some 42, .mov (.t 1), none⟩, ⟨some 43, .mov (.t 2), none⟩, ⟨some 44, .mov (.t 11), none⟩, ⟨some 45, .bin .add (.t 43) (.t 44), none⟩, ⟨some 46, .mov (.t 3), none⟩, ⟨some 47, .call 173 [.t 41, .t 42, .t 45, .t 46], none⟩])))) (.kl [11, 41, 42, 43, 44, 45, 46, 47] (.reg [⟨some 48, .bin .add (.t 37) (.c (.int .i64 1)), none⟩, ⟨some 37, .mov (.t 48), none⟩]))))))
def lp173_1 : C := lb173_1
def lb173_0 : C := .kl [26] (.seq (.reg [⟨some 19, .bin .lss (.t 18) (.t 17), none⟩]) (.seq (.cond (.t 19) (.skip) (.kl [16, 17, 18, 19] (.exit 0))) (.kl [19] (.seq (.blk 1 (.seq (.reg [⟨some 20, .iaddr 3 (.t 16) (.t 18), none⟩, ⟨some 21, .load true 3 (.t 20), none⟩, ⟨some 9, .new [.int .i64 0, .int .i64 0, .int .i64 0], none⟩, ⟨none, .store 3 (.t 9) (.t 21), none⟩]) (.kl [20, 21] (.seq (.reg [⟨some 22, .load true 3 (.t 9), none⟩, ⟨some 23, .mov (.t 2), none⟩, ⟨some 24, .call 181 [.t 22, .t 23], none⟩, ⟨some 25, .un .not (.t 24), none⟩]) (.kl [9, 22, 23, 24] (.cond (.t 25) (.kl [2, 3, 16, 17, 18, 25] (.ret)) (.skip))))))) (.kl [25] (.reg [⟨some 26, .bin .add (.t 18) (.c (.int .i64 1)), none⟩, ⟨some 18, .mov (.t 26), none⟩]))))))
def lp173_0 : C := lb173_0
def fi173 : FI := ⟨.seq (.seq (.reg [⟨some 12, .mov (.t 2), none⟩, ⟨some 13, .lenS (.t 12), none⟩, ⟨some 14, .mov (.t 0), none⟩, ⟨some 15, .bin .eql (.t 13) (.t 14), none⟩]) (.kl [12, 13, 14] (.cond (.t 15) (.kl [0, 15] (.seq (.seq (.reg [⟨some 16, .mov (.t 1), none⟩, ⟨some 17, .lenV (.t 16), none⟩, ⟨some 18, .mov (.c (.int .i64 0)), none⟩]) (.kl [1] (.blk 0 (.loop lp173_0)))) (.seq (.reg [⟨some 27, .mov (.t 3), none⟩, ⟨some 28, .mov (.t 3), none⟩, ⟨some 29, .nck (.t 28), none⟩, ⟨some 30, .load false 1 (.t 29), none⟩, ⟨some 31, .mov (.t 2), none⟩, ⟨some 32, .lit 1 1 [.str []] [(0, 1, .t 31)], none⟩, ⟨some 33, .app 1 (.t 30) (.t 32), none⟩, ⟨some 34, .nck (.t 27), none⟩, ⟨none, .store 1 (.t 34) (.t 33), none⟩]) (.kl [2, 3, 27, 28, 29, 30, 31, 32, 33, 34] (.ret))))) (.skip)))) (.kl [15] (.seq (.reg [⟨some 35, .lit 1 3 [.str [], .str [], .str []] [(0, 1, .c (.str [46])), (1, 1, .c (.str [70])), (2, 1, .c (.str [84]))], none⟩, ⟨some 36, .lenV (.t 35), none⟩, ⟨some 37, .mov (.c (.int .i64 0)), none⟩]) (.blk 2 (.loop lp173_1)))), []⟩
-- lp205_0 HEAD [0, 1, 7, 8] | exit 0: [] | ret: [4]
/-- slices.IndexFunc[[]impl.Move,impl.Move] -/
def lb205_0 : C := .kl [18] (.seq (.reg [⟨some 9, .bin .lss (.t 8) (.t 7), none⟩]) (.seq (.cond (.t 9) (.skip) (.kl [0, 1, 7, 8, 9] (.exit 0))) (.kl [9] (.seq (.blk 1 (.seq (.reg [⟨some 10, .mov (.t 8), none⟩, ⟨some 5, .mov (.t 10), none⟩]) (.kl [10] (.seq (.reg [⟨some 11, .mov (.t 1), none⟩, ⟨some 12, .mov (.t 0), none⟩, ⟨some 13, .mov (.t 5), none⟩, ⟨some 14, .iaddr 2 (.t 12) (.t 13), none⟩, ⟨some 15, .load true 2 (.t 14), none⟩, ⟨some 16, .callv (.t 11) [.t 15], none⟩]) (.kl [11, 12, 13, 14, 15] (.cond (.t 16) (.kl [0, 1, 7, 8, 16] (.seq (.reg [⟨some 17, .mov (.t 5), none⟩, ⟨some 4, .mov (.t 17), none⟩]) (.kl [5, 17] (.ret)))) (.skip))))))) (.kl [5, 16] (.reg [⟨some 18, .bin .add (.t 8) (.c (.int .i64 1)), none⟩, ⟨some 8, .mov (.t 18), none⟩]))))))
def lp205_0 : C := lb205_0
def fi205 : FI := ⟨.seq (.reg [⟨some 4, .mov (.c (.int .i64 0)), none⟩]) (.kl [4] (.seq (.seq (.reg [⟨some 6, .mov (.t 0), none⟩, ⟨some 7, .lenV (.t 6), none⟩, ⟨some 8, .mov (.c (.int .i64 0)), none⟩]) (.kl [6] (.blk 0 (.loop lp205_0)))) (.seq (.reg [⟨some 4, .mov (.c (.int .i64 (-1))), none⟩]) (.ret)))), [.tmp 4]⟩
/-- spec.liCan -/
def fi130 : FI := ⟨.seq (.reg [⟨some 3, .box (.t 1), none⟩, ⟨some 4, .mov (.c (.bool false)), none⟩]) (.kl [1, 4] (.seq (.seq (.reg [⟨some 7, .faddr 0 1 (.t 3), none⟩, ⟨some 8, .load false 1 (.t 7), none⟩, ⟨some 9, .mov (.t 0), none⟩, ⟨some 10, .lenS (.t 9), none⟩, ⟨some 11, .bin .sub (.t 10) (.c (.int .i64 1)), none⟩, ⟨some 12, .call 77 [.t 8, .c (.int .i64 0), .t 11], none⟩, ⟨some 13, .un .not (.t 12), none⟩, ⟨some 14, .mov (.t 13), none⟩, ⟨some 15, .faddr 1 1 (.t 3), some (14, false)⟩, ⟨some 16, .load false 1 (.t 15), some (14, false)⟩, ⟨some 17, .mov (.t 0), some (14, false)⟩, ⟨some 18, .lenS (.t 17), some (14, false)⟩, ⟨some 19, .bin .sub (.t 18) (.c (.int .i64 1)), some (14, false)⟩, ⟨some 20, .call 77 [.t 16, .c (.int .i64 0), .t 19], some (14, false)⟩, ⟨some 21, .un .not (.t 20), some (14, false)⟩, ⟨some 22, .pick (.t 14) (.c (.bool true)) (.t 21), none⟩, ⟨some 23, .mov (.t 22), none⟩, ⟨some 24, .mov (.t 0), some (23, false)⟩, ⟨some 25, .faddr 1 1 (.t 3), some (23, false)⟩, ⟨some 26, .load false 1 (.t 25), some (23, false)⟩, ⟨some 27, .idxS (.t 24) (.t 26), some (23, false)⟩, ⟨some 28, .bin .neq (.t 27) (.c (.int .u8 46)), some (23, false)⟩, ⟨some 29, .pick (.t 23) (.c (.bool true)) (.t 28), none⟩]) (.kl [7, 8, 9, 10, 11, 12, 13, 14, 15, 16, 17, 18, 19, 20, 21, 22, 23, 24, 25, 26, 27, 28] (.cond (.t 29) (.kl [0, 3, 29] (.seq (.reg [⟨some 4, .mov (.c (.bool false)), none⟩]) (.ret))) (.skip)))) (.kl [29] (.seq (.reg [⟨some 5, .mov (.c (.int .i64 1)), none⟩, ⟨some 6, .mov (.c (.int .u8 70)), none⟩]) (.seq (.seq (.reg [⟨some 30, .mov (.t 0), none⟩, ⟨some 31, .faddr 0 1 (.t 3), none⟩, ⟨some 32, .load false 1 (.t 31), none⟩, ⟨some 33, .idxS (.t 30) (.t 32), none⟩]) (.kl [30, 31, 32] (.blk 0 (.seq (.reg [⟨some 35, .bin .eql (.t 33) (.c (.int .u8 84)), none⟩, ⟨some 34, .mov (.t 35), none⟩]) (.kl [35] (.cond (.t 34) (.skip) (.kl [5, 6, 34] (.seq (.reg [⟨some 37, .bin .eql (.t 33) (.c (.int .u8 70)), none⟩, ⟨some 36, .mov (.t 37), none⟩]) (.kl [33, 37] (.cond (.t 36) (.kl [36] (.seq (.reg [⟨some 5, .mov (.c (.int .i64 (-1))), none⟩]) (.reg [⟨some 6, .mov (.c (.int .u8 84)), none⟩]))) (.kl [0, 3, 36] (.seq (.reg [⟨some 4, .mov (.c (.bool false)), none⟩]) (.ret))))))))))))) (.kl [33, 34] (.seq (.reg [⟨some 38, .faddr 1 1 (.t 3), none⟩, ⟨some 39, .load false 1 (.t 38), none⟩, ⟨some 40, .faddr 0 1 (.t 3), none⟩, ⟨some 41, .load false 1 (.t 40), none⟩, ⟨some 42, .mov (.t 5), none⟩, ⟨some 43, .bin .add (.t 41) (.t 42), none⟩, ⟨some 44, .bin .eql (.t 39) (.t 43), none⟩, ⟨some 45, .mov (.t 44), none⟩, ⟨some 46, .faddr 1 1 (.t 3), some (45, false)⟩, ⟨some 47, .load false 1 (.t 46), some (45, false)⟩, ⟨some 48, .faddr 0 1 (.t 3), some (45, false)⟩, ⟨some 49, .load false 1 (.t 48), some (45, false)⟩, ⟨some 50, .mov (.t 5), some (45, false)⟩, ⟨some 51, .bin .mul (.c (.int .i64 2)) (.t 50), some (45, false)⟩, ⟨some 52, .bin .add (.t 49) (.t 51), some (45, false)⟩, ⟨some 53, .bin .eql (.t 47) (.t 52), some (45, false)⟩, ⟨some 54, .mov (.t 53), some (45, false)⟩, ⟨some 55, .mov (.t 0), some (54, true)⟩, ⟨some 56, .faddr 0 1 (.t 3), some (54, true)⟩, ⟨some 57, .load false 1 (.t 56), some (54, true)⟩, ⟨some 58, .mov (.t 5), some (54, true)⟩, ⟨some 59, .bin .add (.t 57) (.t 58), some (54, true)⟩, ⟨some 60, .idxS (.t 55) (.t 59), some (54, true)⟩, ⟨some 61, .mov (.t 6), some (54, true)⟩, ⟨some 62, .bin .eql (.t 60) (.t 61), some (54, true)⟩, ⟨some 63, .pick (.t 54) (.t 62) (.c (.bool false)), some (45, false)⟩, ⟨some 64, .pick (.t 45) (.c (.bool true)) (.t 63), none⟩, ⟨some 4, .mov (.t 64), none⟩]) (.kl [0, 3, 5, 6, 38, 39, 40, 41, 42, 43, 44, 45, 46, 47, 48, 49, 50, 51, 52, 53, 54, 55, 56, 57, 58, 59, 60, 61, 62, 63, 64] (.ret))))))))), [.tmp 4]⟩
/-- impl.at -/
def fi125 : FI := ⟨.seq (.reg [⟨some 4, .mov (.c (.int .u8 0)), none⟩]) (.kl [4] (.seq (.seq (.reg [⟨some 5, .mov (.t 1), none⟩, ⟨some 6, .bin .lss (.t 5) (.c (.int .i64 0)), none⟩, ⟨some 7, .mov (.t 6), none⟩, ⟨some 8, .mov (.t 1), some (7, false)⟩, ⟨some 9, .mov (.t 0), some (7, false)⟩, ⟨some 10, .lenS (.t 9), some (7, false)⟩, ⟨some 11, .bin .geq (.t 8) (.t 10), some (7, false)⟩, ⟨some 12, .pick (.t 7) (.c (.bool true)) (.t 11), none⟩]) (.kl [5, 6, 7, 8, 9, 10, 11] (.cond (.t 12) (.kl [0, 1, 12] (.seq (.reg [⟨some 4, .mov (.c (.int .u8 0)), none⟩]) (.ret))) (.skip)))) (.kl [12] (.seq (.reg [⟨some 13, .mov (.t 0), none⟩, ⟨some 14, .mov (.t 1), none⟩, ⟨some 15, .idxS (.t 13) (.t 14), none⟩, ⟨some 4, .mov (.t 15), none⟩]) (.kl [0, 1, 13, 14, 15] (.ret)))))), [.tmp 4]⟩

def tab : List (Nat × FI) := [(561, fi561), (540, fi540), (541, fi541), (542, fi542), (163, fi163), (381, fi381), (185, fi185), (19, fi19), (166, fi166), (543, fi543), (214, fi214), (213, fi213), (142, fi142), (211, fi211), (544, fi544), (545, fi545), (546, fi546), (547, fi547), (548, fi548), (549, fi549), (183, fi183), (550, fi550), (22, fi22), (562, fi562), (563, fi563), (564, fi564), (565, fi565), (566, fi566), (567, fi567), (82, fi82), (74, fi74), (593, fi593), (187, fi187), (594, fi594), (77, fi77), (595, fi595), (596, fi596), (167, fi167), (106, fi106), (191, fi191), (186, fi186), (59, fi59), (177, fi177), (176, fi176), (218, fi218), (217, fi217), (160, fi160), (165, fi165), (216, fi216), (138, fi138), (172, fi172), (181, fi181), (171, fi171), (192, fi192), (193, fi193), (198, fi198), (199, fi199), (197, fi197), (104, fi104), (64, fi64), (101, fi101), (62, fi62), (99, fi99), (63, fi63), (602, fi602), (603, fi603), (189, fi189), (105, fi105), (188, fi188), (178, fi178), (180, fi180), (179, fi179), (182, fi182), (161, fi161), (109, fi109), (200, fi200), (202, fi202), (201, fi201), (61, fi61), (203, fi203), (119, fi119), (204, fi204), (66, fi66), (124, fi124), (71, fi71), (100, fi100), (116, fi116), (108, fi108), (107, fi107), (610, fi610), (103, fi103), (184, fi184), (206, fi206), (127, fi127), (195, fi195), (196, fi196), (173, fi173), (205, fi205), (130, fi130), (125, fi125)]
def T (f : Nat) : Option FI := (tab.find? fun x => x.1 == f).map (·.2)
theorem T561 : T 561 = some fi561 := rfl
theorem T540 : T 540 = some fi540 := rfl
theorem T541 : T 541 = some fi541 := rfl
theorem T542 : T 542 = some fi542 := rfl
theorem T163 : T 163 = some fi163 := rfl
theorem T381 : T 381 = some fi381 := rfl
theorem T185 : T 185 = some fi185 := rfl
theorem T19 : T 19 = some fi19 := rfl
theorem T166 : T 166 = some fi166 := rfl
theorem T543 : T 543 = some fi543 := rfl
theorem T214 : T 214 = some fi214 := rfl
theorem T213 : T 213 = some fi213 := rfl
theorem T142 : T 142 = some fi142 := rfl
theorem T211 : T 211 = some fi211 := rfl
theorem T544 : T 544 = some fi544 := rfl
theorem T545 : T 545 = some fi545 := rfl
theorem T546 : T 546 = some fi546 := rfl
theorem T547 : T 547 = some fi547 := rfl
theorem T548 : T 548 = some fi548 := rfl
theorem T549 : T 549 = some fi549 := rfl
theorem T183 : T 183 = some fi183 := rfl
theorem T550 : T 550 = some fi550 := rfl
theorem T22 : T 22 = some fi22 := rfl
theorem T562 : T 562 = some fi562 := rfl
theorem T563 : T 563 = some fi563 := rfl
theorem T564 : T 564 = some fi564 := rfl
theorem T565 : T 565 = some fi565 := rfl
theorem T566 : T 566 = some fi566 := rfl
theorem T567 : T 567 = some fi567 := rfl
theorem T82 : T 82 = some fi82 := rfl
theorem T74 : T 74 = some fi74 := rfl
theorem T593 : T 593 = some fi593 := rfl
theorem T187 : T 187 = some fi187 := rfl
theorem T594 : T 594 = some fi594 := rfl
theorem T77 : T 77 = some fi77 := rfl
theorem T595 : T 595 = some fi595 := rfl
theorem T596 : T 596 = some fi596 := rfl
theorem T167 : T 167 = some fi167 := rfl
theorem T106 : T 106 = some fi106 := rfl
theorem T191 : T 191 = some fi191 := rfl
theorem T186 : T 186 = some fi186 := rfl
theorem T59 : T 59 = some fi59 := rfl
theorem T177 : T 177 = some fi177 := rfl
theorem T176 : T 176 = some fi176 := rfl
theorem T218 : T 218 = some fi218 := rfl
theorem T217 : T 217 = some fi217 := rfl
theorem T160 : T 160 = some fi160 := rfl
theorem T165 : T 165 = some fi165 := rfl
theorem T216 : T 216 = some fi216 := rfl
theorem T138 : T 138 = some fi138 := rfl
theorem T172 : T 172 = some fi172 := rfl
theorem T181 : T 181 = some fi181 := rfl
theorem T171 : T 171 = some fi171 := rfl
theorem T192 : T 192 = some fi192 := rfl
theorem T193 : T 193 = some fi193 := rfl
theorem T198 : T 198 = some fi198 := rfl
theorem T199 : T 199 = some fi199 := rfl
theorem T197 : T 197 = some fi197 := rfl
theorem T104 : T 104 = some fi104 := rfl
theorem T64 : T 64 = some fi64 := rfl
theorem T101 : T 101 = some fi101 := rfl
theorem T62 : T 62 = some fi62 := rfl
theorem T99 : T 99 = some fi99 := rfl
theorem T63 : T 63 = some fi63 := rfl
theorem T602 : T 602 = some fi602 := rfl
theorem T603 : T 603 = some fi603 := rfl
theorem T189 : T 189 = some fi189 := rfl
theorem T105 : T 105 = some fi105 := rfl
theorem T188 : T 188 = some fi188 := rfl
theorem T178 : T 178 = some fi178 := rfl
theorem T180 : T 180 = some fi180 := rfl
theorem T179 : T 179 = some fi179 := rfl
theorem T182 : T 182 = some fi182 := rfl
theorem T161 : T 161 = some fi161 := rfl
theorem T109 : T 109 = some fi109 := rfl
theorem T200 : T 200 = some fi200 := rfl
theorem T202 : T 202 = some fi202 := rfl
theorem T201 : T 201 = some fi201 := rfl
theorem T61 : T 61 = some fi61 := rfl
theorem T203 : T 203 = some fi203 := rfl
theorem T119 : T 119 = some fi119 := rfl
theorem T204 : T 204 = some fi204 := rfl
theorem T66 : T 66 = some fi66 := rfl
theorem T124 : T 124 = some fi124 := rfl
theorem T71 : T 71 = some fi71 := rfl
theorem T100 : T 100 = some fi100 := rfl
theorem T116 : T 116 = some fi116 := rfl
theorem T108 : T 108 = some fi108 := rfl
theorem T107 : T 107 = some fi107 := rfl
theorem T610 : T 610 = some fi610 := rfl
theorem T103 : T 103 = some fi103 := rfl
theorem T184 : T 184 = some fi184 := rfl
theorem T206 : T 206 = some fi206 := rfl
theorem T127 : T 127 = some fi127 := rfl
theorem T195 : T 195 = some fi195 := rfl
theorem T196 : T 196 = some fi196 := rfl
theorem T173 : T 173 = some fi173 := rfl
theorem T205 : T 205 = some fi205 := rfl
theorem T130 : T 130 = some fi130 := rfl
theorem T125 : T 125 = some fi125 := rfl
end Go.Proofs.YtnamhjdfegohbaaGreatDoor.Ab
-- EXT strings.Index
-- EXT strings.Trim
-- EXT strings.IndexByte
-- EXT slices.Delete[[]impl.Clue,impl.Clue]
-- EXT strings.Count
-- EXT strings.Contains
-- XF main.main|0|
-- XF gosem.cut|1|
-- XF spec.MakePuzzle|10|
-- XF impl.IsPuzzle$1|100|
-- XF slices.Clone[[]impl.Clue,impl.Clue]|101|22, 26
-- XF impl.without|102|
-- XF spec.pzGood|103|
-- XF spec.pzSolved|104|
-- XF spec.pzWithout|105|
-- XF impl.CountSolutions|106|
-- XF spec.pzClue|107|
-- XF spec.pzFits|108|
-- XF spec.pzCells|109|
-- XF laws.nPuzzle|11|
-- XF impl.turned|110|
-- XF strings.Index|111|
-- XF spec.gaSum|112|
-- XF spec.gaCompare|113|
-- XF impl.sumOf|114|
-- XF impl.newGames|115|
-- XF (impl.games).outcome|116|
-- XF strings.Repeat|117|
-- XF (impl.games).win|118|
-- XF (*spec.gaKnown).win|119|
-- XF impl.Solutions|12|
-- XF spec.gaOutcome|120|
-- XF spec.liGood|121|
-- XF spec.gaWhole|122|
-- XF impl.areCounts|123|
-- XF impl.allLines|124|
-- XF impl.CountOutcomes$1|125|
-- XF spec.liThree|126|
-- XF spec.gaCount|127|
-- XF impl.isPlayed|128|
-- XF impl.free|129|
-- XF impl.PairsToPass|13|
-- XF spec.gaFew|130|
-- XF spec.gaFree|131|
-- XF impl.lines|132|
-- XF (*spec.l1Cur).one|133|
-- XF (*spec.l1Cur).line|134|
-- XF (*spec.l1Cur).among|135|
-- XF (*spec.l1Cur).sureLine|136|
-- XF (*spec.l1Cur).pick|137|
-- XF (*spec.l1Cur).puzzle|138|
-- XF (*spec.l1Cur).clue|139|
-- XF impl.DoesFit|14|
-- XF (*spec.l1Cur).played|140|
-- XF (*spec.l1Cur).sum|141|
-- XF spec.DrawOutcomeOf|142|
-- XF impl.boardOf|143|
-- XF (impl.board).moves|144|
-- XF spec.boRows|145|
-- XF spec.boMoves|146|
-- XF (impl.board).high|147|
-- XF (impl.board).crossed|148|
-- XF (impl.board).text|149|
-- XF impl.MovesOf|15|
-- XF spec.boText|150|
-- XF spec.boCross|151|
-- XF spec.liOther|152|
-- XF strings.Split|153|
-- XF slices.ContainsFunc[[]string,string]|154|30, 9
-- XF impl.IsBoard$1|155|
-- XF impl.PlayOnBoard|156|
-- XF spec.boCan|157|
-- XF spec.boMake|158|
-- XF spec.DrawIsBoard|159|
-- XF impl.IsPuzzle|16|
-- XF (*spec.l1Cur).board|160|
-- XF strings.Trim|161|
-- XF impl.count|162|
-- XF strings.IndexByte|163|
-- XF impl.moves|164|
-- XF spec.pzValue|165|
-- XF impl.hidden|166|
-- XF slices.DeleteFunc[[]string,string]|167|30, 9
-- XF impl.solve$1|168|
-- XF laws.nText|17|
-- XF slices.Delete[[]impl.Clue,impl.Clue]|170|22, 26
-- XF spec.pzAll|171|
-- XF slices.Reverse[[]byte,byte]|172|65, 5
-- XF impl.other|173|
-- XF internal/stringslite.Index|174|
-- XF strings.Join|175|
-- XF math/bits.Mul|176|
-- XF strings.HasPrefix|177|
-- XF (*strings.Builder).Grow|178|
-- XF (*strings.Builder).WriteString|179|
-- XF impl.HarderPuzzle|18|
-- XF (*strings.Builder).Len|180|
-- XF (*strings.Builder).String|181|
-- XF impl.kindOf|182|
-- XF (impl.games).win$1|184|
-- XF impl.made|185|
-- XF spec.gaKey|186|
-- XF spec.liMoves|187|
-- XF spec.gaWith|188|
-- XF spec.liMake|189|
-- XF spec.HarderPuzzle|19|
-- XF spec.liTimes|190|
-- XF impl.allLines$1|191|
-- XF slices.Clone[[]byte,byte]|192|65, 5
-- XF spec.l1All|193|
-- XF impl.free$1|194|
-- XF spec.l1Most|195|
-- XF (*spec.l1Cur).of|196|
-- XF spec.liFirst|197|
-- XF spec.liCount|198|
-- XF spec.liPut|199|
-- XF gosem.cut.init|2|
-- XF impl.IsSolved|20|
-- XF (*spec.l1Cur).next|200|
-- XF (*spec.l1Cur).surePuzzle|201|
-- XF strings.ReplaceAll|202|
-- XF impl.stepOf|203|
-- XF (impl.board).sign|204|
-- XF slices.SortFunc[[]impl.Move,impl.Move]|205|37, 85
-- XF (impl.board).moves$1|206|
-- XF cmp.Or[int]|207|3
-- XF cmp.Compare[int]|208|3
-- XF spec.l1Split|209|
-- XF impl.NeedlessClues|21|
-- XF strings.genSplit|210|
-- XF slices.IndexFunc[[]string,string]|211|30, 9
-- XF (impl.board).play|212|
-- XF spec.boAt|213|
-- XF spec.l1OwnS|214|
-- XF (*spec.l1Cur).sureBoard|215|
-- XF strings.trimLeftByte|216|
-- XF strings.trimRightByte|217|
-- XF strings.makeASCIISet|218|
-- XF strings.trimLeftASCII|219|
-- XF laws.nTexts|22|
-- XF strings.trimRightASCII|220|
-- XF strings.trimLeftUnicode|221|
-- XF strings.trimRightUnicode|222|
-- XF strings.Count|223|
-- XF internal/stringslite.IndexByte|224|
-- XF impl.goal|225|
-- XF strings.Contains|226|
-- XF spec.pzIndex|227|
-- XF spec.liPairs|228|
-- XF spec.pzLook|229|
-- XF impl.AddClue|23|
-- XF internal/bytealg.IndexString|230|
-- XF internal/bytealg.Cutover|231|
-- XF internal/bytealg.IndexRabinKarp[string]|232|9
-- XF math/bits.Mul32|233|
-- XF math/bits.Mul64|234|
-- XF internal/stringslite.HasPrefix|235|
-- XF (*strings.Builder).copyCheck|236|
-- XF (*strings.Builder).grow|237|
-- XF spec.liCan|239|
-- XF spec.AddClue|24|
-- XF strings.Replace|240|
-- XF slices.pdqsortCmpFunc[impl.Move]|241|85
-- XF math/bits.Len|242|
-- XF cmp.isNaN[int]|243|3
-- XF strings.explode|244|
-- XF impl.played|245|
-- XF (impl.board).play$1|246|
-- XF slices.Contains[[]impl.Move,impl.Move]|247|37, 85
-- XF spec.boFirst|248|
-- XF (*strings.asciiSet).contains|249|
-- XF impl.DropClue|25|
-- XF unicode/utf8.DecodeRuneInString|250|
-- XF strings.ContainsRune|251|
-- XF unicode/utf8.DecodeLastRuneInString|252|
-- XF unicode/utf8.RuneCountInString|253|
-- XF internal/bytealg.CountString|254|
-- XF internal/bytealg.IndexByteString|255|
-- XF impl.at|256|
-- XF internal/bytealg.hashStr[string]|257|9
-- XF internal/abi.NoEscape|258|
-- XF internal/bytealg.MakeNoZero|259|
-- XF spec.DropClue|26|
-- XF slices.insertionSortCmpFunc[impl.Move]|260|85
-- XF slices.heapSortCmpFunc[impl.Move]|261|85
-- XF slices.breakPatternsCmpFunc[impl.Move]|262|85
-- XF slices.choosePivotCmpFunc[impl.Move]|263|85
-- XF slices.reverseRangeCmpFunc[impl.Move]|264|85
-- XF slices.partitionEqualCmpFunc[impl.Move]|266|85
-- XF slices.partitionCmpFunc[impl.Move]|267|85
-- XF math/bits.Len32|268|
-- XF math/bits.Len64|269|
-- XF spec.DoesFit|27|
-- XF slices.Index[[]impl.Move,impl.Move]|270|37, 85
-- XF unicode/utf8.decodeRuneInStringSlow|271|
-- XF strings.IndexRune|272|
-- XF unicode/utf8.RuneStart|273|
-- XF slices.siftDownCmpFunc[impl.Move]|274|85
-- XF slices.nextPowerOfTwo|275|
-- XF (*slices.xorshift).Next|276|
-- XF slices.medianAdjacentCmpFunc[impl.Move]|277|85
-- XF slices.medianCmpFunc[impl.Move]|278|85
-- XF unicode/utf8.ValidRune|279|
-- XF impl.IsClue|28|
-- XF slices.order2CmpFunc[impl.Move]|280|85
-- XF (runtime.boundsError).Error|281|
-- XF (runtime.boundsError).RuntimeError|282|
-- XF (runtime.errorString).Error|283|
-- XF (runtime.errorString).RuntimeError|284|
-- XF (runtime.plainError).Error|285|
-- XF (runtime.plainError).RuntimeError|286|
-- XF (runtime.errorAddressString).Error|287|
-- XF (runtime.errorAddressString).RuntimeError|288|
-- XF (*runtime.TypeAssertionError).Error|289|
-- XF spec.IsClue|29|
-- XF (*runtime.TypeAssertionError).RuntimeError|290|
-- XF (*runtime.PanicNilError).Error|291|
-- XF (*runtime.PanicNilError).RuntimeError|292|
-- XF (*internal/abi.Type).Align|293|
-- XF (internal/runtime/maps.unhashableTypeError).Error|294|
-- XF (internal/runtime/maps.unhashableTypeError).RuntimeError|295|
-- XF (impl.Puzzle).text|296|
-- XF (impl.Move).isJump|297|
-- XF (*strings.Builder).Reset|298|
-- XF (internal/abi.Kind).String|299|
-- XF laws.FnLinesHiddenOfAll|3|
-- XF impl.CompareGames|30|
-- XF var's door: unicode/utf8.acceptRanges is laid by its own initialiser, plain data (look 11)|302|
-- XF var's door: unicode/utf8.first is laid by its text alone (pinned 1)|303|
-- XF gosem.cut.vars|304|
-- XF spec.CompareGames|31|
-- XF impl.OtherLine|32|
-- XF impl.OutcomeOfSum|33|
-- XF impl.WholeValue|34|
-- XF impl.WinsSum|35|
-- XF spec.WinsSum|36|
-- XF spec.OutcomeOfSum|37|
-- XF spec.WholeValue|38|
-- XF impl.CountOutcomes|39|
-- XF laws.FnGamesComparedOfAll|4|
-- XF spec.CountOutcomes|40|
-- XF impl.FreeMoves|41|
-- XF spec.FreeMoves|42|
-- XF laws.nSame|43|
-- XF impl.WinsMoving|44|
-- XF impl.OutcomeOf|45|
-- XF impl.CountLines|46|
-- XF laws.nSum|47|
-- XF laws.big|48|
-- XF spec.DrawMakePuzzle|49|
-- XF laws.FnLinesHidden|5|
-- XF spec.DrawHarderPuzzle|50|
-- XF spec.DrawAddClue|51|
-- XF spec.DrawDropClue|52|
-- XF spec.DrawDoesFit|53|
-- XF spec.DrawIsClue|54|
-- XF spec.DrawCompareGames|55|
-- XF spec.DrawWinsSum|56|
-- XF spec.DrawWholeValue|57|
-- XF spec.DrawCountOutcomes|58|
-- XF spec.DrawFreeMoves|59|
-- XF laws.FnGamesCompared|6|
-- XF impl.BoardMoves|60|
-- XF spec.BoardMoves|61|
-- XF impl.SizeOfBoard|62|
-- XF spec.SizeOfBoard|63|
-- XF impl.CrossBoard|64|
-- XF spec.CrossBoard|65|
-- XF impl.OtherBoard|66|
-- XF spec.OtherBoard|67|
-- XF impl.IsBoardBlocked|68|
-- XF spec.IsBoardBlocked|69|
-- XF laws.FnBoardsMoveOfAll|7|
-- XF impl.WayOnBoard|70|
-- XF spec.WayOnBoard|71|
-- XF laws.nMoves|72|
-- XF impl.IsBoard|73|
-- XF spec.IsBoard|74|
-- XF laws.nBefore|75|
-- XF laws.nMove|76|
-- XF impl.RowOfBoard|77|
-- XF impl.ColumnOfBoard|78|
-- XF impl.MakeOnBoard|79|
-- XF laws.FnBoardsMove|8|
-- XF spec.MakeOnBoard|80|
-- XF spec.RowOfBoard|81|
-- XF spec.ColumnOfBoard|82|
-- XF spec.DrawBoardMoves|83|
-- XF spec.DrawMakeOnBoard|84|
-- XF spec.DrawRowOfBoard|85|
-- XF impl.isLineOf|86|
-- XF impl.within|87|
-- XF impl.MakePuzzle$1|88|
-- XF impl.clueOf|89|
-- XF impl.MakePuzzle|9|
-- XF spec.pzLine|90|
-- XF spec.l1In|91|
-- XF spec.pzNext|92|
-- XF spec.pzOf|93|
-- XF impl.solve|94|
-- XF impl.IsLine|95|
-- XF impl.pairs|96|
-- XF (impl.Clue).fits|97|
-- XF impl.movesIn|98|

/- RULES for reckoning with the evaluator: fuel is bounded by no one. -/
namespace Go.Proofs.YtnamhjdfegohbaaGreatDoor.Ab
open Go

def CF.le (a b : CF) : Prop := ∀ f xs h r, a f xs h = some r → b f xs h = some r
theorem CF.le_refl (a : CF) : a.le a := fun _ _ _ _ h => h

def AOp.isCall : AOp → Bool
  | .call .. | .callv .. => true
  | _ => false

section
variable {cf cf' : CF} {ρ : Opd → AV} {h : AH} {e : Env}

theorem evOp_mono (hle : cf.le cf') {i : AOp} {x : AV × AH} (hev : evOp cf ρ h i = some x) : evOp cf' ρ h i = some x := by
  cases i <;> first
    | exact hev
    | (simp only [evOp] at hev ⊢; exact hle _ _ _ _ hev)
    | (simp only [evOp] at hev ⊢
       split at hev
       · exact hle _ _ _ _ hev
       · cases hev)
theorem evOp_any {i : AOp} (hi : i.isCall = false) (cf cf' : CF) : evOp cf ρ h i = evOp cf' ρ h i := by
  cases i <;> first
    | rfl
    | (simp [AOp.isCall] at hi; done)

theorem evI_mono (hle : cf.le cf') {i : I} {x : Env × AH} (hev : evI cf i e h = some x) : evI cf' i e h = some x := by
  have key : ∀ x, (evOp cf (env e) h i.op).map (fun (v, h') => (put e i.dst v, h')) = some x → (evOp cf' (env e) h i.op).map (fun (v, h') => (put e i.dst v, h')) = some x := by
    intro x hx
    simp only [Option.map_eq_some_iff] at hx ⊢
    obtain ⟨y, hy, he⟩ := hx
    exact ⟨y, evOp_mono hle hy, he⟩
  unfold evI at hev ⊢
  split at hev
  · exact key _ hev
  · split at hev
    · split at hev
      · rename_i h1; rw [if_pos h1]; exact key _ hev
      · rename_i h1; rw [if_neg h1]; exact hev
    · exact hev
    · cases hev

theorem evR_mono (hle : cf.le cf') : ∀ {is : List I} {e : Env} {h : AH} {x : Env × AH}, evR cf is e h = some x → evR cf' is e h = some x
  | [], _, _, _, hev => hev
  | i :: is, e, h, x, hev => by
    simp only [evR] at hev ⊢
    split at hev
    · rename_i e1 h1 h2
      rw [evI_mono hle h2]
      exact evR_mono hle hev
    · cases hev

theorem state_some : ∀ {is : List I} {e : Env} {h : AH} {x : Env × AH}, evR cf is e h = some x → ∀ i, ∃ s, stateAt cf is i e h = some s
  | [], e, h, x, hev, i => ⟨(e, h), by simp [stateAt, evR]⟩
  | j :: is, e, h, x, hev, i => by
    cases i with
    | zero => exact ⟨(e, h), by simp [stateAt, evR]⟩
    | succ i =>
      simp only [evR] at hev
      split at hev
      · rename_i e1 h1 h2
        obtain ⟨s, hs⟩ := state_some hev i
        refine ⟨s, ?_⟩
        simp only [stateAt, List.take_succ_cons, evR, h2]
        exact hs
      · cases hev

theorem evDraw_mono (hle : cf.le cf') {is : List I} {ps : List (Nat × Nat)} {x : Env × AH} (hev : evDraw cf is ps e h = some x) : evDraw cf' is ps e h = some x := by
  unfold evDraw at hev ⊢
  split at hev
  · rename_i hst
    rw [if_pos]
    · exact evR_mono hle hev
    · intro p hp
      rcases hst p hp with hpe | hst
      · exact .inl hpe
      refine .inr ?_
      intro o e1 h1 e2 h2 e3 h3 k0 k1 k2 k3
      obtain ⟨s1, g1⟩ := state_some hev p.1
      obtain ⟨s2, g2⟩ := state_some hev p.2
      obtain ⟨s3, g3⟩ := state_some hev (p.2 + 1)
      have m1 := evR_mono hle g1
      have m2 := evR_mono hle g2
      have m3 := evR_mono hle g3
      unfold stateAt at k1 k2 k3
      rw [m1] at k1; rw [m2] at k2; rw [m3] at k3
      cases k1; cases k2; cases k3
      exact hst o e1 h1 e2 h2 e3 h3 k0 g1 g2 g3
  · cases hev

theorem evLoop_mono {s s' : Env → AH → Option (X × Env × AH)} (hs : ∀ e h x, s e h = some x → s' e h = some x) : ∀ {n n' : Nat}, n ≤ n' → ∀ {e : Env} {h : AH} {x}, evLoop s n e h = some x → evLoop s' n' e h = some x
  | 0, _, _, _, _, _, hev => by simp [evLoop] at hev
  | n + 1, 0, hn, _, _, _, _ => by omega
  | n + 1, n' + 1, hn, e, h, x, hev => by
    simp only [evLoop] at hev ⊢
    cases hst : s e h with
    | none => rw [hst] at hev; simp at hev
    | some y =>
      rw [hst] at hev
      rw [hs _ _ _ hst]
      obtain ⟨x1, e1, h1⟩ := y
      cases x1 with
      | normal => exact evLoop_mono hs (by omega) hev
      | exit i => exact hev
      | ret => exact hev

theorem evC_mono (hle : cf.le cf') {n n' : Nat} (hn : n ≤ n') : ∀ (c : C) {e : Env} {h : AH} {x}, evC cf n c e h = some x → evC cf' n' c e h = some x := by
  intro c
  induction c with
  | skip => intro e h x hev; exact hev
  | reg is =>
    intro e h x hev
    simp only [evC, Option.map_eq_some_iff] at hev ⊢
    obtain ⟨y, hy, he⟩ := hev
    exact ⟨y, evR_mono hle hy, he⟩
  | drw is ps =>
    intro e h x hev
    simp only [evC, Option.map_eq_some_iff] at hev ⊢
    obtain ⟨y, hy, he⟩ := hev
    exact ⟨y, evDraw_mono hle hy, he⟩
  | kl ts c ih => intro e h x hev; simp only [evC] at hev ⊢; exact ih hev
  | seq a b iha ihb =>
    intro e h x hev
    simp only [evC] at hev ⊢
    cases ha : evC cf n a e h with
    | none => rw [ha] at hev; simp at hev
    | some y =>
      rw [ha] at hev
      rw [iha ha]
      obtain ⟨x1, e1, h1⟩ := y
      cases x1 with
      | normal => exact ihb hev
      | exit i => exact hev
      | ret => exact hev
  | cond y a b iha ihb =>
    intro e h x hev
    simp only [evC] at hev ⊢
    split at hev
    · rename_i t ht
      split at hev
      · rename_i h1; rw [if_pos h1]; exact iha hev
      · rename_i h1; rw [if_neg h1]; exact ihb hev
    · cases hev
  | blk id a ih =>
    intro e h x hev
    simp only [evC] at hev ⊢
    cases ha : evC cf n a e h with
    | none => rw [ha] at hev; simp at hev
    | some y =>
      rw [ha] at hev
      rw [ih ha]
      exact hev
  | loop a ih =>
    intro e h x hev
    simp only [evC] at hev ⊢
    exact evLoop_mono (fun _ _ _ hh => ih hh) hn hev
  | exit i => intro e h x hev; exact hev
  | ret => intro e h x hev; exact hev
  | bad => intro e h x hev; simp [evC] at hev
end

def EMono (E : Ext) : Prop := ∀ f G, E f = some G → ∀ cf cf' : CF, cf.le cf' → ∀ xs h r, G cf xs h = some r → G cf' xs h = some r

theorem evF_mono {T : Nat → Option FI} {E : Ext} (hE : EMono E) : ∀ {n n' : Nat}, n ≤ n' → (evF T E n).le (evF T E n')
  | 0, _, _ => by intro f xs h r hev; simp [evF] at hev
  | n + 1, 0, hn => by omega
  | n + 1, n' + 1, hn => by
    intro f xs h r hev
    have ih := evF_mono (T := T) hE (show n ≤ n' by omega)
    simp only [evF] at hev ⊢
    split at hev
    · rename_i G hG
      exact hE f G hG _ _ ih _ _ _ hev
    · split at hev
      · rename_i fi hfi
        cases hc : evC (evF T E n) n fi.body (Env.init 0 xs) h with
        | none => rw [hc] at hev; cases hev
        | some y => rw [hc] at hev; rw [evC_mono ih (by omega) _ hc]; exact hev
      · cases hev

/-! ### The rules -/
section
variable (T : Nat → Option FI) (E : Ext)

def Spec (f : Nat) (xs : List AV) (h : AH) (post : AV → AH → Prop) : Prop := ∃ n r h', evF T E n f xs h = some (r, h') ∧ post r h'
def WC (c : C) (e : Env) (h : AH) (Q : X → Env → AH → Prop) : Prop := ∃ n x e' h', evC (evF T E n) n c e h = some (x, e', h') ∧ Q x e' h'
def WR (is : List I) (e : Env) (h : AH) (Q : Env → AH → Prop) : Prop := ∃ n e' h', evR (evF T E n) is e h = some (e', h') ∧ Q e' h'
def WO {α : Type} (o : Option (α × AH)) (K : α → AH → Prop) : Prop := match o with
  | some (v, h) => K v h
  | none => False
end
@[simp] theorem WO_some {α : Type} {v : α} {h : AH} {K : α → AH → Prop} : WO (some (v, h)) K ↔ K v h := Iff.rfl
@[simp] theorem WO_none {α : Type} {K : α → AH → Prop} : WO none K ↔ False := Iff.rfl
theorem WO_iff {α : Type} {o : Option (α × AH)} {K : α → AH → Prop} : WO o K ↔ ∃ v h, o = some (v, h) ∧ K v h := by
  cases o with
  | none => simp
  | some x =>
    obtain ⟨v, h⟩ := x
    exact ⟨fun hk => ⟨v, h, rfl, hk⟩, fun ⟨_, _, he, hk⟩ => by cases he; exact hk⟩

section
variable {T : Nat → Option FI} {E : Ext} (hE : EMono E) {e : Env} {h : AH} {Q : Env → AH → Prop} {R : X → Env → AH → Prop}
include hE

omit hE in
theorem WR_nil : WR T E [] e h Q ↔ Q e h := by
  constructor
  · rintro ⟨n, e', h', hev, hq⟩
    simp only [evR, Option.some.injEq, Prod.mk.injEq] at hev
    obtain ⟨rfl, rfl⟩ := hev
    exact hq
  · intro hq; exact ⟨0, e, h, rfl, hq⟩

omit hE in
/-- An operation that calls no one. -/
theorem WR_op {d : Option Nat} {op : AOp} {is : List I} (hi : op.isCall = false) : WR T E (⟨d, op, none⟩ :: is) e h Q ↔ WO (evOp noCall (env e) h op) fun v h' => WR T E is (put e d v) h' Q := by
  rw [WO_iff]
  constructor
  · rintro ⟨n, e', h', hev, hq⟩
    simp only [evR, evI] at hev
    rw [evOp_any hi (evF T E n) noCall] at hev
    cases ho : evOp noCall (env e) h op with
    | none => rw [ho] at hev; simp at hev
    | some y =>
      rw [ho] at hev
      obtain ⟨v, h1⟩ := y
      exact ⟨v, h1, rfl, n, e', h', hev, hq⟩
  · rintro ⟨v, h1, ho, n, e', h', hev, hq⟩
    refine ⟨n, e', h', ?_, hq⟩
    simp only [evR, evI]
    rw [evOp_any hi (evF T E n) noCall, ho]
    exact hev

theorem WR_call {d : Option Nat} {f : Nat} {xs : List Opd} {is : List I} : WR T E (⟨d, .call f xs, none⟩ :: is) e h Q ↔ Spec T E f (xs.map (env e)) h fun v h' => WR T E is (put e d v) h' Q := by
  constructor
  · rintro ⟨n, e', h', hev, hq⟩
    simp only [evR, evI, evOp] at hev
    cases ho : evF T E n f (xs.map (env e)) h with
    | none => rw [ho] at hev; simp at hev
    | some y =>
      rw [ho] at hev
      obtain ⟨v, h1⟩ := y
      exact ⟨n, v, h1, ho, n, e', h', hev, hq⟩
  · rintro ⟨n, v, h1, ho, n', e', h', hev, hq⟩
    refine ⟨max n n', e', h', ?_, hq⟩
    simp only [evR, evI, evOp]
    rw [evF_mono hE (Nat.le_max_left n n') _ _ _ _ ho]
    exact evR_mono (evF_mono hE (Nat.le_max_right n n')) hev

theorem WR_callv {d : Option Nat} {x : Opd} {xs : List Opd} {is : List I} {f : Nat} {cap : List AV} (hx : env e x = .fn f cap) : WR T E (⟨d, .callv x xs, none⟩ :: is) e h Q ↔ Spec T E f (xs.map (env e) ++ cap) h fun v h' => WR T E is (put e d v) h' Q := by
  constructor
  · rintro ⟨n, e', h', hev, hq⟩
    simp only [evR, evI, evOp, hx] at hev
    cases ho : evF T E n f (xs.map (env e) ++ cap) h with
    | none => rw [ho] at hev; simp at hev
    | some y =>
      rw [ho] at hev
      obtain ⟨v, h1⟩ := y
      exact ⟨n, v, h1, ho, n, e', h', hev, hq⟩
  · rintro ⟨n, v, h1, ho, n', e', h', hev, hq⟩
    refine ⟨max n n', e', h', ?_, hq⟩
    simp only [evR, evI, evOp, hx]
    rw [evF_mono hE (Nat.le_max_left n n') _ _ _ _ ho]
    exact evR_mono (evF_mono hE (Nat.le_max_right n n')) hev

omit hE in
/-- A guard that is heard, one that is not. -/
theorem WR_grd {d : Option Nat} {op : AOp} {is : List I} {t : Nat} {want b : Bool} (hb : e.get t = .bool b) : WR T E (⟨d, op, some (t, want)⟩ :: is) e h Q ↔ if b = want then WR T E (⟨d, op, none⟩ :: is) e h Q else WR T E is (put e d (.tup [])) h Q := by
  have key : ∀ n, evR (evF T E n) (⟨d, op, some (t, want)⟩ :: is) e h = if b = want then evR (evF T E n) (⟨d, op, none⟩ :: is) e h else evR (evF T E n) is (put e d (.tup [])) h := by
    intro n
    simp only [evR, evI, hb]
    by_cases hbw : b = want <;> simp [hbw]
  unfold WR
  simp only [key]
  by_cases hbw : b = want <;> simp [hbw]

omit hE in
/-- A guard on what was not done. -/
theorem WR_grd0 {d : Option Nat} {op : AOp} {is : List I} {t : Nat} {want : Bool} (hb : e.get t = .tup []) : WR T E (⟨d, op, some (t, want)⟩ :: is) e h Q ↔ WR T E is (put e d (.tup [])) h Q := by
  have key : ∀ n, evR (evF T E n) (⟨d, op, some (t, want)⟩ :: is) e h = evR (evF T E n) is (put e d (.tup [])) h := by
    intro n
    simp only [evR, evI, hb]
  unfold WR
  simp only [key]

omit hE in
theorem WC_reg {is : List I} : WC T E (.reg is) e h R ↔ WR T E is e h (R .normal) := by
  constructor
  · rintro ⟨n, x, e', h', hev, hq⟩
    simp only [evC, Option.map_eq_some_iff, Prod.mk.injEq] at hev
    obtain ⟨⟨e1, h1⟩, hev, rfl, rfl, rfl⟩ := hev
    exact ⟨n, e1, h1, hev, hq⟩
  · rintro ⟨n, e', h', hev, hq⟩
    exact ⟨n, .normal, e', h', by simp only [evC, hev]; rfl, hq⟩
omit hE in
theorem WC_skip : WC T E .skip e h R ↔ R .normal e h :=
  ⟨by rintro ⟨n, x, e', h', hev, hq⟩; simp only [evC, Option.some.injEq, Prod.mk.injEq] at hev; obtain ⟨rfl, rfl, rfl⟩ := hev; exact hq, fun hq => ⟨0, _, _, _, rfl, hq⟩⟩
omit hE in
theorem WC_ret : WC T E .ret e h R ↔ R .ret e h :=
  ⟨by rintro ⟨n, x, e', h', hev, hq⟩; simp only [evC, Option.some.injEq, Prod.mk.injEq] at hev; obtain ⟨rfl, rfl, rfl⟩ := hev; exact hq, fun hq => ⟨0, _, _, _, rfl, hq⟩⟩
omit hE in
theorem WC_exit {i : Nat} : WC T E (.exit i) e h R ↔ R (.exit i) e h :=
  ⟨by rintro ⟨n, x, e', h', hev, hq⟩; simp only [evC, Option.some.injEq, Prod.mk.injEq] at hev; obtain ⟨rfl, rfl, rfl⟩ := hev; exact hq, fun hq => ⟨0, _, _, _, rfl, hq⟩⟩
omit hE in
theorem WC_kl {ts : List Nat} {c : C} : WC T E (.kl ts c) e h R ↔ WC T E c (e.dels ts) h R := by
  unfold WC; simp only [evC]

/-- Behind a first piece: go on, or out. -/
def then' (K : Env → AH → Prop) (R : X → Env → AH → Prop) : X → Env → AH → Prop
  | .normal, e, h => K e h
  | x, e, h => R x e h
def inBlk (i : Nat) (R : X → Env → AH → Prop) : X → Env → AH → Prop
  | .exit j, e, h => if j = i then R .normal e h else R (.exit j) e h
  | x, e, h => R x e h
omit hE in
@[simp] theorem then_normal {K : Env → AH → Prop} {R : X → Env → AH → Prop} : then' K R .normal e h = K e h := rfl
omit hE in
@[simp] theorem then_exit {K : Env → AH → Prop} {R : X → Env → AH → Prop} {i : Nat} : then' K R (.exit i) e h = R (.exit i) e h := rfl
omit hE in
@[simp] theorem then_ret {K : Env → AH → Prop} {R : X → Env → AH → Prop} : then' K R .ret e h = R .ret e h := rfl
omit hE in
@[simp] theorem inBlk_normal {i : Nat} {R : X → Env → AH → Prop} : inBlk i R .normal e h = R .normal e h := rfl
omit hE in
@[simp] theorem inBlk_ret {i : Nat} {R : X → Env → AH → Prop} : inBlk i R .ret e h = R .ret e h := rfl
omit hE in
@[simp] theorem inBlk_exit {i j : Nat} {R : X → Env → AH → Prop} : inBlk i R (.exit j) e h = if j = i then R .normal e h else R (.exit j) e h := rfl

theorem WC_seq {a b : C} : WC T E (.seq a b) e h R ↔ WC T E a e h (then' (fun e' h' => WC T E b e' h' R) R) := by
  constructor
  · rintro ⟨n, x, e', h', hev, hq⟩
    simp only [evC] at hev
    cases ha : evC (evF T E n) n a e h with
    | none => rw [ha] at hev; simp at hev
    | some y =>
      rw [ha] at hev
      obtain ⟨x1, e1, h1⟩ := y
      refine ⟨n, x1, e1, h1, ha, ?_⟩
      cases x1 with
      | normal => exact ⟨n, x, e', h', hev, hq⟩
      | exit i => cases hev; exact hq
      | ret => cases hev; exact hq
  · rintro ⟨n, x1, e1, h1, ha, hq⟩
    cases x1 with
    | normal =>
      obtain ⟨n', x, e', h', hev, hq⟩ := hq
      refine ⟨max n n', x, e', h', ?_, hq⟩
      simp only [evC]
      rw [evC_mono (evF_mono hE (Nat.le_max_left n n')) (Nat.le_max_left n n') _ ha]
      exact evC_mono (evF_mono hE (Nat.le_max_right n n')) (Nat.le_max_right n n') _ hev
    | exit i => exact ⟨n, _, e1, h1, by simp only [evC, ha], hq⟩
    | ret => exact ⟨n, _, e1, h1, by simp only [evC, ha], hq⟩

omit hE in
theorem WC_cond {x : Opd} {a b : C} {t : Bool} (ht : env e x = .bool t) : WC T E (.cond x a b) e h R ↔ if t then WC T E a e h R else WC T E b e h R := by
  unfold WC
  simp only [evC, ht]
  cases t <;> simp

omit hE in
theorem WC_blk {i : Nat} {c : C} : WC T E (.blk i c) e h R ↔ WC T E c e h (inBlk i R) := by
  constructor
  · rintro ⟨n, x, e', h', hev, hq⟩
    simp only [evC] at hev
    cases ha : evC (evF T E n) n c e h with
    | none => rw [ha] at hev; simp at hev
    | some y =>
      rw [ha] at hev
      obtain ⟨x1, e1, h1⟩ := y
      refine ⟨n, x1, e1, h1, ha, ?_⟩
      cases x1 with
      | normal => cases hev; exact hq
      | exit j =>
        simp only at hev
        simp only [inBlk]
        split at hev
        · rename_i hj; rw [if_pos hj]; cases hev; exact hq
        · rename_i hj; rw [if_neg hj]; cases hev; exact hq
      | ret => cases hev; exact hq
  · rintro ⟨n, x1, e1, h1, ha, hq⟩
    cases x1 with
    | normal => exact ⟨n, _, e1, h1, by simp only [evC, ha], hq⟩
    | exit j =>
      simp only [inBlk] at hq
      by_cases hj : j = i
      · rw [if_pos hj] at hq
        exact ⟨n, _, e1, h1, by simp only [evC, ha, if_pos hj], hq⟩
      · rw [if_neg hj] at hq
        exact ⟨n, _, e1, h1, by simp only [evC, ha, if_neg hj], hq⟩
    | ret => exact ⟨n, _, e1, h1, by simp only [evC, ha], hq⟩

/-- A loop, one round unrolled. -/
theorem WC_loop {c : C} : WC T E (.loop c) e h R ↔ WC T E c e h (then' (fun e' h' => WC T E (.loop c) e' h' R) R) := by
  constructor
  · rintro ⟨n, x, e', h', hev, hq⟩
    simp only [evC] at hev
    cases n with
    | zero => simp [evLoop] at hev
    | succ n =>
      simp only [evLoop] at hev
      cases ha : evC (evF T E (n + 1)) (n + 1) c e h with
      | none => rw [ha] at hev; simp at hev
      | some y =>
        rw [ha] at hev
        obtain ⟨x1, e1, h1⟩ := y
        refine ⟨n + 1, x1, e1, h1, ha, ?_⟩
        cases x1 with
        | normal =>
          refine ⟨n + 1, x, e', h', ?_, hq⟩
          simp only [evC]
          exact evLoop_mono (fun _ _ _ hh => hh) (Nat.le_succ n) hev
        | exit i => cases hev; exact hq
        | ret => cases hev; exact hq
  · rintro ⟨n, x1, e1, h1, ha, hq⟩
    cases x1 with
    | normal =>
      obtain ⟨n', x, e', h', hev, hq⟩ := hq
      simp only [evC] at hev
      refine ⟨max n n' + 1, x, e', h', ?_, hq⟩
      simp only [evC, evLoop]
      rw [evC_mono (evF_mono hE (show n ≤ max n n' + 1 by omega)) (show n ≤ max n n' + 1 by omega) _ ha]
      exact evLoop_mono (fun _ _ _ hh => evC_mono (evF_mono hE (show n' ≤ max n n' + 1 by omega)) (show n' ≤ max n n' + 1 by omega) _ hh) (show n' ≤ max n n' by omega) hev
    | exit i =>
      refine ⟨n + 1, _, e1, h1, ?_, hq⟩
      simp only [evC, evLoop]
      rw [evC_mono (evF_mono hE (Nat.le_succ n)) (Nat.le_succ n) _ ha]
    | ret =>
      refine ⟨n + 1, _, e1, h1, ?_, hq⟩
      simp only [evC, evLoop]
      rw [evC_mono (evF_mono hE (Nat.le_succ n)) (Nat.le_succ n) _ ha]

omit hE in
/-- Into a function of the table. -/
theorem Spec_of {f : Nat} {xs : List AV} {post : AV → AH → Prop} {fi : FI} (hEf : E f = none) (hT : T f = some fi)
    (hw : WC T E fi.body (Env.init 0 xs) h fun x e' h' => (x = .normal ∨ x = .ret) ∧ ∃ r, resV e' h' fi.res = some r ∧ post r h') : Spec T E f xs h post := by
  obtain ⟨n, x, e', h', hev, hx, r, hr, hq⟩ := hw
  refine ⟨n + 1, r, h', ?_, hq⟩
  simp only [evF, hEf, hT, hev]
  rcases hx with rfl | rfl <;> simp [hr]
omit hE in
theorem Spec_ext {f : Nat} {xs : List AV} {post : AV → AH → Prop} {G : CF → List AV → AH → Option (AV × AH)} (hEf : E f = some G) {r : AV} {h' : AH} (n : Nat) (hG : G (evF T E n) xs h = some (r, h')) (hp : post r h') : Spec T E f xs h post :=
  ⟨n + 1, r, h', by simp only [evF, hEf, hG], hp⟩
omit hE in
theorem Spec.mono {f : Nat} {xs : List AV} {post post' : AV → AH → Prop} (hs : Spec T E f xs h post) (hp : ∀ r h', post r h' → post' r h') : Spec T E f xs h post' := by
  obtain ⟨n, r, h', hev, hq⟩ := hs
  exact ⟨n, r, h', hev, hp _ _ hq⟩
omit hE in
theorem WC.mono {c : C} {R' : X → Env → AH → Prop} (hs : WC T E c e h R) (hp : ∀ x e' h', R x e' h' → R' x e' h') : WC T E c e h R' := by
  obtain ⟨n, x, e', h', hev, hq⟩ := hs
  exact ⟨n, x, e', h', hev, hp _ _ _ hq⟩
end
end Go.Proofs.YtnamhjdfegohbaaGreatDoor.Ab

/- DEMONIC RUNS: pieces of code of the machine, and steps of an iterator over a map, whose order is not known. -/
namespace Go.Proofs.YtnamhjdfegohbaaGreatDoor.Ab
open Go

inductive D where
  | c (c : C)
  | nxt (it dst ok : Nat)
  | kl (ts : List Nat) (d : D)
  | seq (a b : D)
  | blk (id : Nat) (d : D)
  | loop (d : D)

abbrev RP := X → Env → AH → Prop
abbrev WCt := C → Env → AH → RP → Prop
def dRounds (W : Env → AH → RP → Prop) (R : RP) : Nat → Env → AH → Prop
  | 0, _, _ => False
  | k + 1, e, h => W e h (then' (fun e' h' => dRounds W R k e' h') R)
def dW (Wc : WCt) : D → Env → AH → RP → Prop
  | .c c, e, h, R => Wc c e h R
  | .nxt it dst ok, e, h, R => ∃ c cm seen es, e.get it = .iter c ∧ h[c]? = some (.mit cm es.length seen) ∧ h[cm]? = some (.map es) ∧
      (∀ (i : Nat) k v, es[i]? = some (k, v) → i ∉ seen → R .normal ((e.set dst (.tup [.bool true, k, v])).set ok (.bool true)) (h.set c (.mit cm es.length (seen ++ [i])))) ∧
      ((∀ i, i < es.length → i ∈ seen) → R .normal ((e.set dst (.tup [.bool false])).set ok (.bool false)) h)
  | .kl ts d, e, h, R => dW Wc d (e.dels ts) h R
  | .seq a b, e, h, R => dW Wc a e h (then' (fun e' h' => dW Wc b e' h' R) R)
  | .blk id d, e, h, R => dW Wc d e h (inBlk id R)
  | .loop d, e, h, R => ∃ n, dRounds (dW Wc d) R n e h

def WMono (Wc : WCt) : Prop := ∀ c e h (R R' : RP), (∀ x e' h', R x e' h' → R' x e' h') → Wc c e h R → Wc c e h R'
def WBoth (Wc : WCt) : Prop := ∀ c e h (R R' : RP), Wc c e h R → Wc c e h R' → ∃ x e' h', R x e' h' ∧ R' x e' h'
def Wcf (cf : CF) : WCt := fun c e h R => ∃ n x e' h', evC cf n c e h = some (x, e', h') ∧ R x e' h'
end Go.Proofs.YtnamhjdfegohbaaGreatDoor.Ab
