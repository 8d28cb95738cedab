/- Part 1 of the proof of a law of the given program: the rules that it leans on, and what the functions that it reaches answer; the conditions stand with each theorem. -/
import Derived.Tactics
import Derived.WalkKit
import Derived.Lib.Bytealg
import Derived.Lib.SlTrimSet
import Derived.Lib.Join
import Derived.Lib.Repeat
set_option linter.unusedSimpArgs false
set_option linter.unusedVariables false
/- THE ABSTRACT MACHINE: values, heap, compact instructions, evaluator. No program in sight. -/
namespace Go.Proofs.YtgdlaopjabjkbaaGreatDoor.Ab
open Go

/-! ### Values and heap -/
inductive AV where
  | int (k : IntKind) (n : Int)
  | bool (b : Bool)
  | str (s : List UInt8)
  | nilS
  | empS
  | slice (c k off len esz : Nat)
  | nilP
  | ptr (c k off n : Nat)
  | nilM
  | map (c : Nat)
  | iter (c : Nat)
  | fn (f : Nat) (cap : List AV)
  | nilF
  | agg (xs : List AV)
  | tup (xs : List AV)
  | nilI
  | ifc
  | undef
  deriving Inhabited

inductive AO where
  | row (cs : List AV) (ver floor : Nat) (ro : Bool)
  | map (es : List (AV × AV))
  | iter (s : List UInt8) (pos : Nat)
  | mit (cm since : Nat) (seen : List Nat)
  deriving Inhabited

abbrev AH := List AO

def AV.cells : AV → List AV
  | .agg xs => xs
  | v => [v]

/-- A value that fills one cell. -/
def AV.sc : AV → Bool
  | .agg _ | .tup _ | .undef => false
  | _ => true

def mkv (agg : Bool) (xs : List AV) : Option AV :=
  if agg then some (.agg xs) else match xs with
    | [v] => some v
    | _ => none

/-! ### Environments: slots that are known -/
abbrev Env := List (Nat × AV)
def Env.get : Env → Nat → AV
  | [], _ => .undef
  | (k, v) :: e, t => if k = t then v else Env.get e t
def Env.set : Env → Nat → AV → Env
  | [], t, v => [(t, v)]
  | (k, u) :: e, t, v => if k = t then (t, v) :: e else if t < k then (t, v) :: (k, u) :: e else (k, u) :: Env.set e t v
def Env.del : Env → Nat → Env
  | [], _ => []
  | (k, u) :: e, t => if k = t then Env.del e t else (k, u) :: Env.del e t
def Env.dels (e : Env) : List Nat → Env
  | [] => e
  | t :: ts => Env.dels (e.del t) ts
def Env.init : Nat → List AV → Env
  | _, [] => []
  | i, v :: vs => (i, v) :: Env.init (i + 1) vs

/-! ### Instructions -/
inductive Opd where
  | t (n : Nat)
  | c (v : AV)

inductive AOp where
  | mov (x : Opd)
  | pick (c a b : Opd)
  | bin (op : BinOp) (x y : Opd)
  | beq (neg : Bool) (x y : Opd)
  | aeq (neg : Bool) (kds : List Nat) (x y : Opd)
  | niq (neg : Bool) (kd : Nat) (x : Opd)
  | un (op : UnOp) (x : Opd)
  | conv (k : IntKind) (x : Opd)
  | toB (x : Opd)
  | ofB (x : Opd)
  | ofR (x : Opd)
  | new (zero : List AV)
  | box (x : Opd)
  | build (zero : List AV) (parts : List (Nat × Nat × Opd))
  | lit (esz len : Nat) (zero : List AV) (parts : List (Nat × Nat × Opd))
  | lit0
  | load (agg : Bool) (n : Nat) (a : Opd)
  | store (n : Nat) (a x : Opd)
  | nck (x : Opd)
  | faddr (off n : Nat) (a : Opd)
  | fld (agg : Bool) (off n : Nat) (x : Opd)
  | iaddr (esz : Nat) (x i : Opd)
  | iaddrA (len esz : Nat) (a i : Opd)
  | idx (agg : Bool) (len esz : Nat) (x i : Opd)
  | idxS (x i : Opd)
  | sub (esz : Nat) (x : Opd) (lo hi : Option Opd)
  | sub0 (x : Opd) (hi mx : Opd)
  | subS (x : Opd) (lo hi : Option Opd)
  | subA (len esz : Nat) (a : Opd) (lo hi : Option Opd)
  | make (esz : Nat) (zero : List AV) (len cap : Opd)
  | mkmap
  | mkfn (f : Nat) (caps : List Opd)
  | look (kd : Nat) (zero : AV) (ok : Bool) (m k : Opd)
  | mset (kd : Nat) (m k v : Opd)
  | mlen (m : Opd)
  | rng (x : Opd)
  | rngM (x : Opd)
  | ent (it : Opd)
  | nxt (it : Opd)
  | prj (i : Nat) (x : Opd)
  | call (f : Nat) (xs : List Opd)
  | callv (x : Opd) (xs : List Opd)
  | lenS (x : Opd)
  | lenV (x : Opd)
  | app (esz : Nat) (s x : Opd)
  | appS (s x : Opd)
  | copy (esz : Nat) (d s : Opd)
  | clr (zero : List AV) (x : Opd)
  | mmx (max : Bool) (x y : Opd)

structure I where
  dst : Option Nat
  op : AOp
  grd : Option (Nat × Bool) := none

inductive C where
  | skip
  | reg (is : List I)
  | drw (is : List I) (ps : List (Nat × Nat))
  | kl (ts : List Nat) (c : C)
  | seq (a b : C)
  | cond (x : Opd) (a b : C)
  | blk (id : Nat) (c : C)
  | loop (c : C)
  | exit (id : Nat)
  | ret
  | bad

inductive Res where
  | tmp (t : Nat)
  | cell (agg : Bool) (n : Nat) (t : Nat)

structure FI where
  body : C
  res : List Res

/-! ### Memory -/
def room : Nat := 1099511627776

def rdRow (h : AH) (c k off n : Nat) : Option (List AV) :=
  match h[c]? with
  | some (.row cs ver fl _) => if fl ≤ k ∧ k ≤ ver ∧ off + n ≤ cs.length then some ((cs.drop off).take n) else none
  | _ => none

def splice {α : Type} (cs : List α) (off : Nat) (vs : List α) : List α := cs.take off ++ vs ++ cs.drop (off + vs.length)

def wrRow (h : AH) (c k off : Nat) (vs : List AV) : Option AH :=
  match h[c]? with
  | some (.row cs ver fl false) => if k = ver ∧ fl ≤ ver ∧ off + vs.length ≤ cs.length ∧ vs.all AV.sc = true then some (h.set c (.row (splice cs off vs) ver ver false)) else none
  | _ => none

def newRow (h : AH) (cs : List AV) : Option (Nat × AH) := if cs.all AV.sc = true then some (h.length, h ++ [.row cs 0 0 false]) else none

/-- What a slice or a string holds, cell by cell. -/
def cellsOf (h : AH) : AV → Option (List AV)
  | .nilS | .empS => some []
  | .slice c k off len esz => rdRow h c k off (len * esz)
  | .str s => some (s.map fun b => .int .u8 b.toNat)
  | _ => none

/-- append: of n elements, the cells vs. -/
def apRow (h : AH) (esz : Nat) (s : AV) (n : Nat) (vs : List AV) : Option (AV × AH) :=
  match s with
  | .nilS => if n = 0 then some (.nilS, h) else if n ≤ room then (newRow h vs).map fun (c, h') => (.slice c 0 0 n esz, h') else none
  | .empS => if n = 0 then some (.empS, h) else if n ≤ room then (newRow h vs).map fun (c, h') => (.slice c 0 0 n esz, h') else none
  | .slice c k off len e =>
    match h[c]? with
    | some (.row cs ver fl false) =>
      if e = esz ∧ k = ver ∧ off + len * esz = cs.length ∧ fl ≤ ver ∧ vs.all AV.sc = true ∧ len + n ≤ room then
        some (.slice c (ver + 1) off (len + n) esz, h.set c (.row (cs ++ vs) (ver + 1) fl false)) else none
    | _ => none
  | _ => none

/-! ### Keys of maps -/
def keyEq : AV → AV → Option Bool
  | .int k a, .int k' b => if k = k' then some (a == b) else none
  | .str a, .str b => some (a == b)
  | .bool a, .bool b => some (a == b)
  | _, _ => none
def keyIs : Nat → AV → Bool
  | 0, .int _ _ | 1, .str _ | 2, .bool _ => true
  | _, _ => false
def seqL : List Nat → List AV → List AV → Option Bool
  | [], [], [] => some true
  | kd :: kds, x :: xs, y :: ys => match keyIs kd x, keyEq x y, seqL kds xs ys with
    | true, some a, some b => some (a && b)
    | _, _, _ => none
  | _, _, _ => none

def mfind (k : AV) : List (AV × AV) → Option (Option AV)
  | [] => some none
  | (a, v) :: es => match keyEq k a with
    | some true => some (some v)
    | some false => mfind k es
    | none => none
def mput (k v : AV) : List (AV × AV) → List (AV × AV)
  | [] => [(k, v)]
  | (a, u) :: es => match keyEq k a with
    | some true => (k, v) :: es
    | _ => (a, u) :: mput k v es

/-! ### Operations -/
def two63 : Nat := 9223372036854775807
def binI (op : BinOp) (k : IntKind) (x y : Int) : Option AV :=
  match op with
  | .add => some (.int k (k.wrap (x + y)))
  | .sub => some (.int k (k.wrap (x - y)))
  | .mul => some (.int k (k.wrap (x * y)))
  | .quo => if y = 0 then none else some (.int k (k.wrap (x.tdiv y)))
  | .rem => if y = 0 then none else some (.int k (x.tmod y))
  | .and | .or | .xor | .andNot => some (.int k (bits op k x y))
  | .eql => some (.bool (x == y))
  | .neq => some (.bool (x != y))
  | .lss => some (.bool (decide (x < y)))
  | .leq => some (.bool (decide (x ≤ y)))
  | .gtr => some (.bool (decide (x > y)))
  | .geq => some (.bool (decide (x ≥ y)))
  | .shl | .shr => none
def binSh (op : BinOp) (k : IntKind) (x y : Int) : Option AV :=
  if y < 0 then none else match op with
  | .shl => some (.int k (k.wrap (x * 2 ^ (min y.toNat k.bits))))
  | .shr => some (.int k (x.fdiv (2 ^ (min y.toNat k.bits))))
  | _ => none
def binS (op : BinOp) (x y : List UInt8) : Option AV :=
  match op with
  | .add => if x.length + y.length ≤ two63 then some (.str (x ++ y)) else none
  | .eql => some (.bool (x == y))
  | .neq => some (.bool (!(x == y)))
  | .lss => some (.bool (Op.bytesLess x y))
  | .leq => some (.bool (Op.bytesLess x y || x == y))
  | .gtr => some (.bool (!(Op.bytesLess x y || x == y)))
  | .geq => some (.bool (!(Op.bytesLess x y)))
  | _ => none
def evBin (op : BinOp) : AV → AV → Option AV
  | .int k x, .int k' y => match op with
    | .shl | .shr => binSh op k x y
    | _ => if k = k' then binI op k x y else none
  | .str x, .str y => binS op x y
  | _, _ => none

def evNil : Nat → AV → Option Bool
  | 0, .nilS | 1, .nilP | 2, .nilM | 3, .nilF | 4, .nilI => some true
  | 0, .empS | 0, .slice .. | 1, .ptr .. | 2, .map _ | 3, .fn .. | 4, .ifc => some false
  | _, _ => none

def byte1 : AV → Option UInt8
  | .int .u8 n => some (UInt8.ofNat n.toNat)
  | _ => none
def bytesL : List AV → Option (List UInt8)
  | [] => some []
  | v :: vs => match byte1 v, bytesL vs with
    | some b, some bs => some (b :: bs)
    | _, _ => none

def fillP (cells : List AV) : List (Nat × Nat × AV) → Option (List AV)
  | [] => some cells
  | (off, n, v) :: rest => if v.cells.length = n ∧ off + n ≤ cells.length ∧ v.cells.all AV.sc = true then fillP (splice cells off v.cells) rest else none

def dec (s : List UInt8) (pos : Nat) : Int × Nat := let (c, w) := Utf8.decode ⟨s.toArray⟩ pos; (c, w)

def bnd (o : Option AV) (d top : Nat) : Option Nat :=
  match o with
  | none => some d
  | some (.int _ i) => if 0 ≤ i ∧ i ≤ top then some i.toNat else none
  | _ => none

abbrev CF := Nat → List AV → AH → Option (AV × AH)

def optv (ρ : Opd → AV) : Option Opd → Option AV
  | none => none
  | some x => some (ρ x)

def evOp (cf : CF) (ρ : Opd → AV) (h : AH) : AOp → Option (AV × AH)
  | .mov x => some (ρ x, h)
  | .pick c a b => match ρ c with
    | .bool t => some (if t then ρ a else ρ b, h)
    | _ => none
  | .bin op x y => (evBin op (ρ x) (ρ y)).map (·, h)
  | .beq neg x y => match ρ x, ρ y with
    | .bool a, .bool b => some (.bool (if neg then !(a == b) else a == b), h)
    | _, _ => none
  | .aeq neg kds x y => match ρ x, ρ y with
    | .agg xs, .agg ys => (seqL kds xs ys).map fun b => (.bool (if neg then !b else b), h)
    | _, _ => none
  | .niq neg kd x => (evNil kd (ρ x)).map fun b => (.bool (if neg then !b else b), h)
  | .un op x => match op, ρ x with
    | .neg, .int k n => some (.int k (k.wrap (0 - n)), h)
    | .not, .bool b => some (.bool (!b), h)
    | _, _ => none
  | .conv k x => match ρ x with
    | .int _ n => some (.int k (k.wrap n), h)
    | _ => none
  | .toB x => match ρ x with
    | .str s => if s.length ≤ room then (newRow h (s.map fun b => .int .u8 b.toNat)).map fun (c, h') => (.slice c 0 0 s.length 1, h') else none
    | _ => none
  | .ofB x => match ρ x with
    | .nilS | .empS => some (.str [], h)
    | .slice c k off len e => if e = 1 then match rdRow h c k off len with
        | some cs => (bytesL cs).map fun s => (.str s, h)
        | none => none
      else none
    | _ => none
  | .ofR x => match ρ x with
    | .int _ n => some (.str (Utf8.encode n).data.toList, h)
    | _ => none
  | .new zero => (newRow h zero).map fun (c, h') => (.ptr c 0 0 zero.length, h')
  | .box x => match ρ x with
    | .undef | .tup _ => none
    | v => (newRow h v.cells).map fun (c, h') => (.ptr c 0 0 v.cells.length, h')
  | .build zero parts => (fillP zero (parts.map fun (o, n, x) => (o, n, ρ x))).map fun cs => (.agg cs, h)
  | .lit esz len zero parts => match fillP zero (parts.map fun (o, n, x) => (o, n, ρ x)) with
    | some cs => (newRow h cs).map fun (c, h') => (.slice c 0 0 len esz, h')
    | none => none
  | .lit0 => some (.empS, h)
  | .load agg n a => match ρ a with
    | .ptr c k off m => if n ≤ m then match rdRow h c k off n with
        | some cs => (mkv agg cs).map (·, h)
        | none => none
      else none
    | _ => none
  | .store n a x => match ρ a with
    | .ptr c k off m => if n ≤ m ∧ (ρ x).cells.length = n then (wrRow h c k off (ρ x).cells).map fun h' => (.undef, h') else none
    | _ => none
  | .nck x => match ρ x with
    | .ptr c k off n => some (.ptr c k off n, h)
    | .fn f cs => some (.fn f cs, h)
    | _ => none
  | .faddr off n a => match ρ a with
    | .ptr c k o m => if off + n ≤ m then some (.ptr c k (o + off) n, h) else none
    | _ => none
  | .fld agg off n x => match ρ x with
    | .agg xs => if off + n ≤ xs.length then (mkv agg ((xs.drop off).take n)).map (·, h) else none
    | _ => none
  | .iaddr esz x i => match ρ x, ρ i with
    | .slice c k off len e, .int _ j => if e = esz ∧ 0 ≤ j ∧ j < len then some (.ptr c k (off + j.toNat * esz) esz, h) else none
    | _, _ => none
  | .iaddrA len esz a i => match ρ a, ρ i with
    | .ptr c k off m, .int _ j => if len * esz ≤ m ∧ 0 ≤ j ∧ j < len then some (.ptr c k (off + j.toNat * esz) esz, h) else none
    | _, _ => none
  | .idx agg len esz x i => match ρ x, ρ i with
    | .agg xs, .int _ j => if xs.length = len * esz ∧ 0 ≤ j ∧ j < len then (mkv agg ((xs.drop (j.toNat * esz)).take esz)).map (·, h) else none
    | _, _ => none
  | .idxS x i => match ρ x, ρ i with
    | .str s, .int _ j => if 0 ≤ j ∧ j < s.length then some (.int .u8 (s.getD j.toNat 0).toNat, h) else none
    | _, _ => none
  | .sub esz x lo hi => match ρ x with
    | .nilS => match bnd (optv ρ hi) 0 0 with
      | some b => match bnd (optv ρ lo) 0 b with
        | some _ => some (.nilS, h)
        | none => none
      | none => none
    | .empS => match bnd (optv ρ hi) 0 0 with
      | some b => match bnd (optv ρ lo) 0 b with
        | some _ => some (.empS, h)
        | none => none
      | none => none
    | .slice c k off len e => if e = esz then match bnd (optv ρ hi) len len with
        | some b => match bnd (optv ρ lo) 0 b with
          | some a => some (.slice c k (off + a * esz) (b - a) esz, h)
          | none => none
        | none => none
      else none
    | _ => none
  | .sub0 x hi mx => match ρ x, ρ hi, ρ mx with
    | .nilS, .int _ 0, .int _ 0 => some (.nilS, h)
    | .empS, .int _ 0, .int _ 0 => some (.empS, h)
    | .slice .., .int _ 0, .int _ 0 => some (.empS, h)
    | _, _, _ => none
  | .subS x lo hi => match ρ x with
    | .str s => match bnd (optv ρ hi) s.length s.length with
      | some b => match bnd (optv ρ lo) 0 b with
        | some a => some (.str ((s.drop a).take (b - a)), h)
        | none => none
      | none => none
    | _ => none
  | .subA len esz a lo hi => match ρ a with
    | .ptr c k off m => if len * esz ≤ m ∧ (rdRow h c k off (len * esz)).isSome = true then match bnd (optv ρ hi) len len with
        | some b => match bnd (optv ρ lo) 0 b with
          | some a => some (.slice c k (off + a * esz) (b - a) esz, h)
          | none => none
        | none => none
      else none
    | _ => none
  | .make esz zero len cap => match ρ len, ρ cap with
    | .int _ n, .int _ m => if 0 ≤ n ∧ n ≤ m ∧ m ≤ room ∧ zero.length = esz then
        (newRow h (List.replicate n.toNat zero).flatten).map fun (c, h') => (.slice c 0 0 n.toNat esz, h') else none
    | _, _ => none
  | .mkmap => some (.map h.length, h ++ [.map []])
  | .mkfn f caps => some (.fn f (caps.map ρ), h)
  | .look kd zero ok m k => if keyIs kd (ρ k) = true then match (match ρ m with
      | .nilM => some []
      | .map c => match h[c]? with
        | some (.map es) => some es
        | _ => none
      | _ => none) with
    | some es => match mfind (ρ k) es with
      | some (some v) => some (if ok then .tup [v, .bool true] else v, h)
      | some none => some (if ok then .tup [zero, .bool false] else zero, h)
      | none => none
    | none => none
    else none
  | .mset kd m k v => if keyIs kd (ρ k) = true then match ρ m with
    | .map c => match h[c]? with
      | some (.map es) => match mfind (ρ k) es with
        | some _ => match ρ v with
          | .undef => none
          | u => some (.undef, h.set c (.map (mput (ρ k) u es)))
        | none => none
      | _ => none
    | _ => none
    else none
  | .mlen m => match ρ m with
    | .nilM => some (.int .i64 0, h)
    | .map c => match h[c]? with
      | some (.map es) => some (.int .i64 es.length, h)
      | _ => none
    | _ => none
  | .rng x => match ρ x with
    | .str s => some (.iter h.length, h ++ [.iter s 0])
    | _ => none
  | .rngM x => match ρ x with
    | .map c => match h[c]? with
      | some (.map es) => some (.iter h.length, h ++ [.mit c es.length []])
      | _ => none
    | _ => none
  | .ent it => match ρ it with
    | .iter c => match h[c]? with
      | some (.mit cm since seen) => match h[cm]? with
        | some (.map es) => match seen.getLast? with
          | some i => if es.length = since then (es[i]?).map fun e => (.tup [e.1, e.2], h) else none
          | none => none
        | _ => none
      | _ => none
    | _ => none
  | .nxt it => match ρ it with
    | .iter c => match h[c]? with
      | some (.iter s pos) => if pos < s.length then
          some (.tup [.bool true, .int .i64 pos, .int .i32 (dec s pos).1], h.set c (.iter s (pos + (dec s pos).2)))
        else some (.tup [.bool false], h)
      | _ => none
    | _ => none
  | .prj i x => match ρ x with
    | .tup vs => (vs[i]?).map (·, h)
    | _ => none
  | .call f xs => cf f (xs.map ρ) h
  | .callv x xs => match ρ x with
    | .fn f cap => cf f (xs.map ρ ++ cap) h
    | _ => none
  | .lenS x => match ρ x with
    | .str s => some (.int .i64 s.length, h)
    | _ => none
  | .lenV x => match ρ x with
    | .nilS | .empS => some (.int .i64 0, h)
    | .slice _ _ _ len _ => some (.int .i64 len, h)
    | _ => none
  | .app esz s x => match ρ x with
    | .nilS | .empS => apRow h esz (ρ s) 0 []
    | .slice c k off len e => if e = esz then match rdRow h c k off (len * esz) with
        | some vs => apRow h esz (ρ s) len vs
        | none => none
      else none
    | _ => none
  | .appS s x => match ρ x with
    | .str b => apRow h 1 (ρ s) b.length (b.map fun b => .int .u8 b.toNat)
    | _ => none
  | .copy esz d s => match ρ d, ρ s with
    | .slice c k off len e, .slice c' k' off' len' e' => if e = esz ∧ e' = esz then
        if min len' len = 0 then some (.int .i64 0, h) else match rdRow h c' k' off' (min len' len * esz) with
        | some vs => (wrRow h c k off vs).map fun h' => (.int .i64 ((min len' len : Nat) : Int), h')
        | none => none
      else none
    | _, _ => none
  | .clr zero x => match ρ x with
    | .nilS | .empS => some (.tup [], h)
    | .slice c k off len e => if e = zero.length then
        if len = 0 then some (.tup [], h) else (wrRow h c k off (List.replicate len zero).flatten).map fun h' => (.tup [], h')
      else none
    | _ => none
  | .mmx mx x y => match ρ x, ρ y with
    | .int k a, .int k' b => if k = k' then some (.int k (if mx then (if b > a then b else a) else (if b < a then b else a)), h) else none
    | .str a, .str b => if mx then none else some (.str (if (Op.bytesLess a b || a == b) then a else b), h)
    | _, _ => none

def env (e : Env) : Opd → AV
  | .t n => e.get n
  | .c v => v

def put (e : Env) (d : Option Nat) (v : AV) : Env :=
  match d with
  | some t => e.set t v
  | none => e

def evI (cf : CF) (i : I) (e : Env) (h : AH) : Option (Env × AH) :=
  match i.grd with
  | none => (evOp cf (env e) h i.op).map fun (v, h') => (put e i.dst v, h')
  | some (t, want) => match e.get t with
    | .bool b => if b = want then (evOp cf (env e) h i.op).map fun (v, h') => (put e i.dst v, h') else some (put e i.dst (.tup []), h)
    | .tup [] => some (put e i.dst (.tup []), h)
    | _ => none

def evR (cf : CF) : List I → Env → AH → Option (Env × AH)
  | [], e, h => some (e, h)
  | i :: is, e, h => match evI cf i e h with
    | some (e', h') => evR cf is e' h'
    | none => none

inductive X where
  | normal
  | exit (id : Nat)
  | ret

/-- The state before operation i of a region. -/
def stateAt (cf : CF) (is : List I) (i : Nat) (e : Env) (h : AH) : Option (Env × AH) := evR cf (is.take i) e h

def noCall : CF := fun _ _ _ => none

/-- What operation j reads does not turn by operation i. -/
def Stable (cf : CF) (is : List I) (e : Env) (h : AH) (j i : Nat) : Prop :=
  ∀ o e1 h1 e2 h2 e3 h3, is[j]? = some o → stateAt cf is j e h = some (e1, h1) → stateAt cf is i e h = some (e2, h2) → stateAt cf is (i + 1) e h = some (e3, h3) →
    (evOp noCall (env e1) h2 o.op).map (·.1) = (evOp noCall (env e1) h3 o.op).map (·.1)

open Classical in
noncomputable def evDraw (cf : CF) (is : List I) (ps : List (Nat × Nat)) (e : Env) (h : AH) : Option (Env × AH) :=
  if ∀ p ∈ ps, Stable cf is e h p.1 p.2 then evR cf is e h else none

def evLoop (step : Env → AH → Option (X × Env × AH)) : Nat → Env → AH → Option (X × Env × AH)
  | 0, _, _ => none
  | n + 1, e, h => match step e h with
    | some (.normal, e', h') => evLoop step n e' h'
    | r => r

noncomputable def evC (cf : CF) (n : Nat) : C → Env → AH → Option (X × Env × AH)
  | .skip, e, h => some (.normal, e, h)
  | .reg is, e, h => (evR cf is e h).map fun (e', h') => (.normal, e', h')
  | .drw is ps, e, h => (evDraw cf is ps e h).map fun (e', h') => (.normal, e', h')
  | .kl ts c, e, h => evC cf n c (e.dels ts) h
  | .seq a b, e, h => match evC cf n a e h with
    | some (.normal, e', h') => evC cf n b e' h'
    | r => r
  | .cond x a b, e, h => match env e x with
    | .bool t => if t then evC cf n a e h else evC cf n b e h
    | _ => none
  | .blk id c, e, h => match evC cf n c e h with
    | some (.exit id', e', h') => if id' = id then some (.normal, e', h') else some (.exit id', e', h')
    | r => r
  | .loop c, e, h => evLoop (evC cf n c) n e h
  | .exit id, e, h => some (.exit id, e, h)
  | .ret, e, h => some (.ret, e, h)
  | .bad, _, _ => none

def res1 (e : Env) (h : AH) : Res → Option AV
  | .tmp t => some (e.get t)
  | .cell agg n t => match e.get t with
    | .ptr c k off m => if n ≤ m then match rdRow h c k off n with
        | some cs => mkv agg cs
        | none => none
      else none
    | _ => none
def resL (e : Env) (h : AH) : List Res → Option (List AV)
  | [] => some []
  | r :: rs => match res1 e h r, resL e h rs with
    | some v, some vs => some (v :: vs)
    | _, _ => none
def resV (e : Env) (h : AH) (rs : List Res) : Option AV :=
  match resL e h rs with
  | some [v] => some v
  | some vs => some (.tup vs)
  | none => none

abbrev Ext := Nat → Option (CF → List AV → AH → Option (AV × AH))

noncomputable def evF (T : Nat → Option FI) (E : Ext) : Nat → CF
  | 0 => fun _ _ _ => none
  | n + 1 => fun f xs h => match E f with
    | some F => F (evF T E n) xs h
    | none => match T f with
      | some fi => match evC (evF T E n) n fi.body (Env.init 0 xs) h with
        | some (.normal, e, h') => (resV e h' fi.res).map (·, h')
        | some (.ret, e, h') => (resV e h' fi.res).map (·, h')
        | _ => none
      | none => none

end Go.Proofs.YtgdlaopjabjkbaaGreatDoor.Ab

/- BODIES of functions as compact literals, written by gen.py. -/
namespace Go.Proofs.YtgdlaopjabjkbaaGreatDoor.Ab
open Go

/-- laws.FnExactBoardMoveThatFails -/
def fi364 : FI := ⟨.seq (.reg [⟨some 4, .mov (.c (.bool false)), none⟩]) (.kl [4] (.seq (.seq (.reg [⟨some 11, .mov (.t 0), none⟩, ⟨some 12, .lenS (.t 11), none⟩, ⟨some 13, .bin .gtr (.t 12) (.c (.int .i64 1048576)), none⟩]) (.kl [11, 12] (.cond (.t 13) (.kl [0, 1, 13] (.seq (.reg [⟨some 4, .mov (.c (.bool true)), none⟩]) (.ret))) (.skip)))) (.kl [13] (.seq (.reg [⟨some 5, .mov (.c (.int .i64 1048576)), none⟩]) (.seq (.reg [⟨some 14, .mov (.t 1), none⟩, ⟨some 15, .mov (.t 5), none⟩, ⟨some 16, .call 365 [.t 14, .t 15], none⟩, ⟨some 5, .mov (.t 16), none⟩]) (.kl [14, 15, 16] (.seq (.seq (.reg [⟨some 17, .mov (.t 5), none⟩, ⟨some 18, .bin .lss (.t 17) (.c (.int .i64 0)), none⟩]) (.kl [5, 17] (.cond (.t 18) (.kl [0, 1, 18] (.seq (.reg [⟨some 4, .mov (.c (.bool true)), none⟩]) (.ret))) (.skip)))) (.kl [18] (.seq (.reg [⟨some 20, .mov (.t 0), none⟩, ⟨some 21, .mov (.t 1), none⟩, ⟨some 22, .call 366 [.t 21], none⟩, ⟨some 23, .call 367 [.t 20, .t 22], none⟩, ⟨some 19, .mov (.t 23), none⟩, ⟨some 24, .prj 0 (.t 19), none⟩, ⟨some 25, .prj 1 (.t 19), none⟩, ⟨some 6, .mov (.t 24), none⟩, ⟨some 7, .mov (.t 25), none⟩]) (.kl [19, 20, 21, 22, 23, 24, 25] (.seq (.reg [⟨some 26, .mov (.t 1), none⟩, ⟨some 27, .call 366 [.t 26], none⟩, ⟨some 8, .mov (.t 27), none⟩]) (.kl [26, 27] (.seq (.reg [⟨some 29, .mov (.t 0), none⟩, ⟨some 30, .mov (.t 8), none⟩, ⟨some 31, .call 368 [.t 29, .t 30], none⟩, ⟨some 28, .mov (.t 31), none⟩, ⟨some 32, .prj 0 (.t 28), none⟩, ⟨some 33, .prj 1 (.t 28), none⟩, ⟨some 9, .mov (.t 32), none⟩, ⟨some 10, .mov (.t 33), none⟩]) (.kl [0, 28, 29, 30, 31, 32, 33] (.seq (.seq (.reg [⟨some 34, .mov (.t 9), none⟩, ⟨some 35, .mov (.t 6), none⟩, ⟨some 36, .bin .neq (.t 34) (.t 35), none⟩, ⟨some 37, .mov (.t 36), none⟩, ⟨some 38, .mov (.t 10), some (37, false)⟩, ⟨some 39, .mov (.t 7), some (37, false)⟩, ⟨some 40, .beq true (.t 38) (.t 39), some (37, false)⟩, ⟨some 41, .pick (.t 37) (.c (.bool true)) (.t 40), none⟩]) (.kl [6, 7, 9, 10, 34, 35, 36, 37, 38, 39, 40] (.cond (.t 41) (.kl [1, 8, 41] (.seq (.reg [⟨some 4, .mov (.c (.bool false)), none⟩]) (.ret))) (.skip)))) (.kl [41] (.seq (.seq (.reg [⟨some 42, .mov (.t 8), none⟩, ⟨some 43, .mov (.t 1), none⟩, ⟨some 44, .call 366 [.t 43], none⟩, ⟨some 45, .call 227 [.t 42, .t 44], none⟩, ⟨some 46, .un .not (.t 45), none⟩]) (.kl [1, 8, 42, 43, 44, 45] (.cond (.t 46) (.kl [46] (.seq (.reg [⟨some 4, .mov (.c (.bool false)), none⟩]) (.ret))) (.skip)))) (.kl [46] (.seq (.reg [⟨some 4, .mov (.c (.bool true)), none⟩]) (.ret)))))))))))))))))))), [.tmp 4]⟩
/-- laws.FnExactPlayOnBoard -/
def fi369 : FI := ⟨.seq (.reg [⟨some 4, .mov (.c (.bool false)), none⟩]) (.kl [4] (.seq (.seq (.reg [⟨some 11, .mov (.t 0), none⟩, ⟨some 12, .lenS (.t 11), none⟩, ⟨some 13, .bin .gtr (.t 12) (.c (.int .i64 1048576)), none⟩]) (.kl [11, 12] (.cond (.t 13) (.kl [0, 1, 13] (.seq (.reg [⟨some 4, .mov (.c (.bool true)), none⟩]) (.ret))) (.skip)))) (.kl [13] (.seq (.reg [⟨some 5, .mov (.c (.int .i64 1048576)), none⟩]) (.seq (.reg [⟨some 14, .mov (.t 1), none⟩, ⟨some 15, .mov (.t 5), none⟩, ⟨some 16, .call 365 [.t 14, .t 15], none⟩, ⟨some 5, .mov (.t 16), none⟩]) (.kl [14, 15, 16] (.seq (.seq (.reg [⟨some 17, .mov (.t 5), none⟩, ⟨some 18, .bin .lss (.t 17) (.c (.int .i64 0)), none⟩]) (.kl [5, 17] (.cond (.t 18) (.kl [0, 1, 18] (.seq (.reg [⟨some 4, .mov (.c (.bool true)), none⟩]) (.ret))) (.skip)))) (.kl [18] (.seq (.reg [⟨some 20, .mov (.t 0), none⟩, ⟨some 21, .mov (.t 1), none⟩, ⟨some 22, .call 366 [.t 21], none⟩, ⟨some 23, .call 370 [.t 20, .t 22], none⟩, ⟨some 19, .mov (.t 23), none⟩, ⟨some 24, .prj 0 (.t 19), none⟩, ⟨some 25, .prj 1 (.t 19), none⟩, ⟨some 6, .mov (.t 24), none⟩, ⟨some 7, .mov (.t 25), none⟩]) (.kl [19, 20, 21, 22, 23, 24, 25] (.seq (.reg [⟨some 26, .mov (.t 1), none⟩, ⟨some 27, .call 366 [.t 26], none⟩, ⟨some 8, .mov (.t 27), none⟩]) (.kl [26, 27] (.seq (.reg [⟨some 29, .mov (.t 0), none⟩, ⟨some 30, .mov (.t 8), none⟩, ⟨some 31, .call 336 [.t 29, .t 30], none⟩, ⟨some 28, .mov (.t 31), none⟩, ⟨some 32, .prj 0 (.t 28), none⟩, ⟨some 33, .prj 1 (.t 28), none⟩, ⟨some 9, .mov (.t 32), none⟩, ⟨some 10, .mov (.t 33), none⟩]) (.kl [0, 28, 29, 30, 31, 32, 33] (.seq (.seq (.reg [⟨some 34, .mov (.t 9), none⟩, ⟨some 35, .mov (.t 6), none⟩, ⟨some 36, .bin .neq (.t 34) (.t 35), none⟩, ⟨some 37, .mov (.t 36), none⟩, ⟨some 38, .mov (.t 10), some (37, false)⟩, ⟨some 39, .mov (.t 7), some (37, false)⟩, ⟨some 40, .beq true (.t 38) (.t 39), some (37, false)⟩, ⟨some 41, .pick (.t 37) (.c (.bool true)) (.t 40), none⟩]) (.kl [6, 7, 9, 10, 34, 35, 36, 37, 38, 39, 40] (.cond (.t 41) (.kl [1, 8, 41] (.seq (.reg [⟨some 4, .mov (.c (.bool false)), none⟩]) (.ret))) (.skip)))) (.kl [41] (.seq (.seq (.reg [⟨some 42, .mov (.t 8), none⟩, ⟨some 43, .mov (.t 1), none⟩, ⟨some 44, .call 366 [.t 43], none⟩, ⟨some 45, .call 227 [.t 42, .t 44], none⟩, ⟨some 46, .un .not (.t 45), none⟩]) (.kl [1, 8, 42, 43, 44, 45] (.cond (.t 46) (.kl [46] (.seq (.reg [⟨some 4, .mov (.c (.bool false)), none⟩]) (.ret))) (.skip)))) (.kl [46] (.seq (.reg [⟨some 4, .mov (.c (.bool true)), none⟩]) (.ret)))))))))))))))))))), [.tmp 4]⟩
/-- laws.szMoveS -/
def fi365 : FI := ⟨.seq (.reg [⟨some 4, .mov (.c (.int .i64 0)), none⟩]) (.kl [4] (.seq (.reg [⟨some 5, .mov (.t 1), none⟩, ⟨some 6, .mov (.t 0), none⟩, ⟨some 7, .lenV (.t 6), none⟩, ⟨some 8, .bin .sub (.t 5) (.t 7), none⟩, ⟨some 1, .mov (.t 8), none⟩]) (.kl [0, 5, 6, 7, 8] (.seq (.seq (.reg [⟨some 9, .mov (.t 1), none⟩, ⟨some 10, .bin .lss (.t 9) (.c (.int .i64 0)), none⟩]) (.kl [9] (.cond (.t 10) (.kl [1, 10] (.seq (.reg [⟨some 4, .mov (.c (.int .i64 (-1))), none⟩]) (.ret))) (.skip)))) (.kl [10] (.seq (.reg [⟨some 11, .mov (.t 1), none⟩, ⟨some 4, .mov (.t 11), none⟩]) (.kl [1, 11] (.ret)))))))), [.tmp 4]⟩
/-- spec.BoardMoveThatFails -/
def fi367 : FI := ⟨.seq (.reg [⟨some 4, .mov (.c (.int .i64 0)), none⟩, ⟨some 5, .mov (.c (.bool false)), none⟩]) (.kl [4, 5] (.seq (.reg [⟨some 11, .mov (.t 0), none⟩, ⟨some 12, .call 328 [.t 11], none⟩, ⟨some 10, .mov (.t 12), none⟩, ⟨some 13, .prj 0 (.t 10), none⟩, ⟨some 14, .prj 1 (.t 10), none⟩, ⟨some 6, .mov (.t 13), none⟩, ⟨some 7, .mov (.t 14), none⟩]) (.kl [0, 10, 11, 12, 13, 14] (.seq (.seq (.reg [⟨some 15, .mov (.t 7), none⟩, ⟨some 16, .un .not (.t 15), none⟩, ⟨some 17, .mov (.t 16), none⟩, ⟨some 18, .mov (.t 1), some (17, false)⟩, ⟨some 19, .lenV (.t 18), some (17, false)⟩, ⟨some 20, .bin .gtr (.t 19) (.c (.int .i64 200)), some (17, false)⟩, ⟨some 21, .pick (.t 17) (.c (.bool true)) (.t 20), none⟩]) (.kl [7, 15, 16, 17, 18, 19, 20] (.cond (.t 21) (.kl [1, 6, 21] (.seq (.reg [⟨some 4, .mov (.c (.int .i64 0)), none⟩, ⟨some 5, .mov (.c (.bool false)), none⟩]) (.ret))) (.skip)))) (.kl [21] (.seq (.reg [⟨some 23, .mov (.t 6), none⟩, ⟨some 24, .mov (.t 1), none⟩, ⟨some 25, .call 371 [.t 23, .t 24], none⟩, ⟨some 22, .mov (.t 25), none⟩, ⟨some 26, .prj 0 (.t 22), none⟩, ⟨some 27, .prj 1 (.t 22), none⟩, ⟨some 8, .mov (.t 26), none⟩, ⟨some 9, .mov (.t 27), none⟩]) (.kl [6, 8, 22, 23, 24, 25, 26, 27] (.seq (.seq (.reg [⟨some 28, .mov (.t 9), none⟩, ⟨some 29, .mov (.t 1), none⟩, ⟨some 30, .lenV (.t 29), none⟩, ⟨some 31, .bin .eql (.t 28) (.t 30), none⟩]) (.kl [1, 28, 29, 30] (.cond (.t 31) (.kl [9, 31] (.seq (.reg [⟨some 4, .mov (.c (.int .i64 0)), none⟩, ⟨some 5, .mov (.c (.bool false)), none⟩]) (.ret))) (.skip)))) (.kl [31] (.seq (.reg [⟨some 32, .mov (.t 9), none⟩, ⟨some 4, .mov (.t 32), none⟩, ⟨some 5, .mov (.c (.bool true)), none⟩]) (.kl [9, 32] (.ret)))))))))))), [.tmp 4, .tmp 5]⟩
-- lp366_0 HEAD [0, 3, 4] | exit 0: [3]
/-- laws.toMoveS -/
def lb366_0 : C := .kl [12, 13] (.seq (.seq (.reg [⟨some 8, .mov (.t 4), none⟩, ⟨some 9, .mov (.t 0), none⟩, ⟨some 10, .lenV (.t 9), none⟩, ⟨some 11, .bin .lss (.t 8) (.t 10), none⟩]) (.kl [8, 9, 10] (.cond (.t 11) (.skip) (.kl [0, 4, 11] (.exit 0))))) (.kl [11] (.seq (.blk 1 (.reg [⟨some 14, .mov (.t 3), none⟩, ⟨some 15, .mov (.t 4), none⟩, ⟨some 16, .mov (.t 0), none⟩, ⟨some 17, .mov (.t 4), none⟩, ⟨some 18, .iaddr 2 (.t 16) (.t 17), none⟩, ⟨some 19, .load true 2 (.t 18), none⟩, ⟨some 20, .call 325 [.t 19], none⟩, ⟨some 21, .iaddr 2 (.t 14) (.t 15), none⟩, ⟨none, .store 2 (.t 21) (.t 20), none⟩])) (.kl [14, 15, 16, 17, 18, 19, 20, 21] (.reg [⟨some 12, .mov (.t 4), none⟩, ⟨some 13, .bin .add (.t 12) (.c (.int .i64 1)), none⟩, ⟨some 4, .mov (.t 13), none⟩])))))
def lp366_0 : C := lb366_0
def fi366 : FI := ⟨.seq (.reg [⟨some 2, .mov (.c (.nilS)), none⟩]) (.kl [2] (.seq (.reg [⟨some 5, .mov (.t 0), none⟩, ⟨some 6, .lenV (.t 5), none⟩, ⟨some 7, .make 2 [.int .i64 0, .int .i64 0] (.t 6) (.t 6), none⟩, ⟨some 3, .mov (.t 7), none⟩]) (.kl [5, 6, 7] (.seq (.seq (.reg [⟨some 4, .mov (.c (.int .i64 0)), none⟩]) (.blk 0 (.loop lp366_0))) (.seq (.reg [⟨some 22, .mov (.t 3), none⟩, ⟨some 2, .mov (.t 22), none⟩]) (.kl [3, 22] (.ret))))))), [.tmp 2]⟩
/-- impl.BoardMoveThatFails -/
def fi368 : FI := ⟨.seq (.reg [⟨some 4, .mov (.c (.int .i64 0)), none⟩, ⟨some 5, .mov (.c (.bool false)), none⟩]) (.kl [4, 5] (.seq (.seq (.reg [⟨some 8, .mov (.t 0), none⟩, ⟨some 9, .call 330 [.t 8], none⟩, ⟨some 10, .un .not (.t 9), none⟩, ⟨some 11, .mov (.t 10), none⟩, ⟨some 12, .mov (.t 1), some (11, false)⟩, ⟨some 13, .lenV (.t 12), some (11, false)⟩, ⟨some 14, .bin .gtr (.t 13) (.c (.int .i64 200)), some (11, false)⟩, ⟨some 15, .pick (.t 11) (.c (.bool true)) (.t 14), none⟩]) (.kl [8, 9, 10, 11, 12, 13, 14] (.cond (.t 15) (.kl [0, 1, 15] (.seq (.reg [⟨some 4, .mov (.c (.int .i64 0)), none⟩, ⟨some 5, .mov (.c (.bool false)), none⟩]) (.ret))) (.skip)))) (.kl [15] (.seq (.reg [⟨some 17, .mov (.t 0), none⟩, ⟨some 18, .call 331 [.t 17], none⟩, ⟨some 19, .mov (.t 1), none⟩, ⟨some 20, .call 346 [.t 18, .t 19], none⟩, ⟨some 16, .mov (.t 20), none⟩, ⟨some 21, .prj 0 (.t 16), none⟩, ⟨some 22, .prj 1 (.t 16), none⟩, ⟨some 6, .new [.str [], .int .i64 0], none⟩, ⟨none, .store 2 (.t 6) (.t 21), none⟩, ⟨some 7, .mov (.t 22), none⟩]) (.kl [0, 6, 16, 17, 18, 19, 20, 21, 22] (.seq (.seq (.reg [⟨some 23, .mov (.t 7), none⟩, ⟨some 24, .mov (.t 1), none⟩, ⟨some 25, .lenV (.t 24), none⟩, ⟨some 26, .bin .eql (.t 23) (.t 25), none⟩]) (.kl [1, 23, 24, 25] (.cond (.t 26) (.kl [7, 26] (.seq (.reg [⟨some 4, .mov (.c (.int .i64 0)), none⟩, ⟨some 5, .mov (.c (.bool false)), none⟩]) (.ret))) (.skip)))) (.kl [26] (.seq (.reg [⟨some 27, .mov (.t 7), none⟩, ⟨some 4, .mov (.t 27), none⟩, ⟨some 5, .mov (.c (.bool true)), none⟩]) (.kl [7, 27] (.ret)))))))))), [.tmp 4, .tmp 5]⟩
-- lp227_0 HEAD [0, 1, 5] | exit 0: [] | ret: [4]
/-- laws.eqMoveS -/
def lb227_0 : C := .kl [15, 16] (.seq (.seq (.reg [⟨some 11, .mov (.t 5), none⟩, ⟨some 12, .mov (.t 0), none⟩, ⟨some 13, .lenV (.t 12), none⟩, ⟨some 14, .bin .lss (.t 11) (.t 13), none⟩]) (.kl [11, 12, 13] (.cond (.t 14) (.skip) (.kl [0, 1, 5, 14] (.exit 0))))) (.kl [14] (.seq (.blk 1 (.seq (.drw [⟨some 17, .mov (.t 0), none⟩, ⟨some 18, .mov (.t 5), none⟩, ⟨some 19, .iaddr 2 (.t 17) (.t 18), none⟩, ⟨some 20, .load true 2 (.t 19), none⟩, ⟨some 21, .mov (.t 1), none⟩, ⟨some 22, .mov (.t 5), none⟩, ⟨some 23, .iaddr 2 (.t 21) (.t 22), none⟩, ⟨some 24, .load true 2 (.t 23), none⟩, ⟨some 25, .call 240 [.t 20, .t 24], none⟩, ⟨some 26, .un .not (.t 25), none⟩] []) (.kl [17, 18, 19, 20, 21, 22, 23, 24, 25] (.cond (.t 26) (.kl [0, 1, 5, 26] (.seq (.reg [⟨some 4, .mov (.c (.bool false)), none⟩]) (.ret))) (.skip))))) (.kl [26] (.reg [⟨some 15, .mov (.t 5), none⟩, ⟨some 16, .bin .add (.t 15) (.c (.int .i64 1)), none⟩, ⟨some 5, .mov (.t 16), none⟩])))))
def lp227_0 : C := lb227_0
def fi227 : FI := ⟨.seq (.reg [⟨some 4, .mov (.c (.bool false)), none⟩]) (.kl [4] (.seq (.seq (.reg [⟨some 6, .mov (.t 0), none⟩, ⟨some 7, .lenV (.t 6), none⟩, ⟨some 8, .mov (.t 1), none⟩, ⟨some 9, .lenV (.t 8), none⟩, ⟨some 10, .bin .neq (.t 7) (.t 9), none⟩]) (.kl [6, 7, 8, 9] (.cond (.t 10) (.kl [0, 1, 10] (.seq (.reg [⟨some 4, .mov (.c (.bool false)), none⟩]) (.ret))) (.skip)))) (.kl [10] (.seq (.seq (.reg [⟨some 5, .mov (.c (.int .i64 0)), none⟩]) (.blk 0 (.loop lp227_0))) (.seq (.reg [⟨some 4, .mov (.c (.bool true)), none⟩]) (.ret)))))), [.tmp 4]⟩
/-- spec.PlayOnBoard -/
def fi370 : FI := ⟨.seq (.reg [⟨some 4, .mov (.c (.str [])), none⟩, ⟨some 5, .mov (.c (.bool false)), none⟩]) (.kl [4, 5] (.seq (.reg [⟨some 11, .mov (.t 0), none⟩, ⟨some 12, .call 328 [.t 11], none⟩, ⟨some 10, .mov (.t 12), none⟩, ⟨some 13, .prj 0 (.t 10), none⟩, ⟨some 14, .prj 1 (.t 10), none⟩, ⟨some 6, .mov (.t 13), none⟩, ⟨some 7, .mov (.t 14), none⟩]) (.kl [0, 10, 11, 12, 13, 14] (.seq (.seq (.reg [⟨some 15, .mov (.t 7), none⟩, ⟨some 16, .un .not (.t 15), none⟩, ⟨some 17, .mov (.t 16), none⟩, ⟨some 18, .mov (.t 1), some (17, false)⟩, ⟨some 19, .lenV (.t 18), some (17, false)⟩, ⟨some 20, .bin .gtr (.t 19) (.c (.int .i64 200)), some (17, false)⟩, ⟨some 21, .pick (.t 17) (.c (.bool true)) (.t 20), none⟩]) (.kl [7, 15, 16, 17, 18, 19, 20] (.cond (.t 21) (.kl [1, 6, 21] (.seq (.reg [⟨some 4, .mov (.c (.str [])), none⟩, ⟨some 5, .mov (.c (.bool false)), none⟩]) (.ret))) (.skip)))) (.kl [21] (.seq (.reg [⟨some 23, .mov (.t 6), none⟩, ⟨some 24, .mov (.t 1), none⟩, ⟨some 25, .call 371 [.t 23, .t 24], none⟩, ⟨some 22, .mov (.t 25), none⟩, ⟨some 26, .prj 0 (.t 22), none⟩, ⟨some 27, .prj 1 (.t 22), none⟩, ⟨some 8, .mov (.t 26), none⟩, ⟨some 9, .mov (.t 27), none⟩]) (.kl [6, 22, 23, 24, 25, 26, 27] (.seq (.seq (.reg [⟨some 28, .mov (.t 9), none⟩, ⟨some 29, .mov (.t 1), none⟩, ⟨some 30, .lenV (.t 29), none⟩, ⟨some 31, .bin .lss (.t 28) (.t 30), none⟩]) (.kl [1, 9, 28, 29, 30] (.cond (.t 31) (.kl [8, 31] (.seq (.reg [⟨some 4, .mov (.c (.str [])), none⟩, ⟨some 5, .mov (.c (.bool false)), none⟩]) (.ret))) (.skip)))) (.kl [31] (.seq (.reg [⟨some 32, .mov (.t 8), none⟩, ⟨some 33, .call 335 [.t 32], none⟩, ⟨some 4, .mov (.t 33), none⟩, ⟨some 5, .mov (.c (.bool true)), none⟩]) (.kl [8, 32, 33] (.ret)))))))))))), [.tmp 4, .tmp 5]⟩
/-- impl.PlayOnBoard -/
def fi336 : FI := ⟨.seq (.reg [⟨some 4, .mov (.c (.str [])), none⟩, ⟨some 5, .mov (.c (.bool false)), none⟩]) (.kl [4, 5] (.seq (.seq (.reg [⟨some 8, .mov (.t 0), none⟩, ⟨some 9, .call 330 [.t 8], none⟩, ⟨some 10, .un .not (.t 9), none⟩, ⟨some 11, .mov (.t 10), none⟩, ⟨some 12, .mov (.t 1), some (11, false)⟩, ⟨some 13, .lenV (.t 12), some (11, false)⟩, ⟨some 14, .bin .gtr (.t 13) (.c (.int .i64 200)), some (11, false)⟩, ⟨some 15, .pick (.t 11) (.c (.bool true)) (.t 14), none⟩]) (.kl [8, 9, 10, 11, 12, 13, 14] (.cond (.t 15) (.kl [0, 1, 15] (.seq (.reg [⟨some 4, .mov (.c (.str [])), none⟩, ⟨some 5, .mov (.c (.bool false)), none⟩]) (.ret))) (.skip)))) (.kl [15] (.seq (.reg [⟨some 17, .mov (.t 0), none⟩, ⟨some 18, .call 331 [.t 17], none⟩, ⟨some 19, .mov (.t 1), none⟩, ⟨some 20, .call 346 [.t 18, .t 19], none⟩, ⟨some 16, .mov (.t 20), none⟩, ⟨some 21, .prj 0 (.t 16), none⟩, ⟨some 22, .prj 1 (.t 16), none⟩, ⟨some 6, .new [.str [], .int .i64 0], none⟩, ⟨none, .store 2 (.t 6) (.t 21), none⟩, ⟨some 7, .mov (.t 22), none⟩]) (.kl [0, 16, 17, 18, 19, 20, 21, 22] (.seq (.seq (.reg [⟨some 23, .mov (.t 7), none⟩, ⟨some 24, .mov (.t 1), none⟩, ⟨some 25, .lenV (.t 24), none⟩, ⟨some 26, .bin .lss (.t 23) (.t 25), none⟩]) (.kl [1, 7, 23, 24, 25] (.cond (.t 26) (.kl [6, 26] (.seq (.reg [⟨some 4, .mov (.c (.str [])), none⟩, ⟨some 5, .mov (.c (.bool false)), none⟩]) (.ret))) (.skip)))) (.kl [26] (.seq (.reg [⟨some 27, .load true 2 (.t 6), none⟩, ⟨some 28, .call 347 [.t 27], none⟩, ⟨some 4, .mov (.t 28), none⟩, ⟨some 5, .mov (.c (.bool true)), none⟩]) (.kl [6, 27, 28] (.ret)))))))))), [.tmp 4, .tmp 5]⟩
-- lp328_0 HEAD [4, 16, 17, 18] | exit 0: [4] | ret: [2, 3]
/-- spec.boRows -/
def lb328_0 : C := .kl [39] (.seq (.reg [⟨some 19, .bin .lss (.t 18) (.t 17), none⟩]) (.seq (.cond (.t 19) (.skip) (.kl [16, 17, 18, 19] (.exit 0))) (.kl [19] (.seq (.blk 1 (.seq (.reg [⟨some 20, .iaddr 1 (.t 16) (.t 18), none⟩, ⟨some 21, .load false 1 (.t 20), none⟩, ⟨some 6, .mov (.t 21), none⟩]) (.kl [20, 21] (.seq (.reg [⟨some 22, .mov (.t 6), none⟩, ⟨some 23, .call 104 [.t 22], none⟩, ⟨some 24, .un .not (.t 23), none⟩, ⟨some 25, .mov (.t 24), none⟩, ⟨some 26, .mov (.t 6), some (25, false)⟩, ⟨some 27, .lenS (.t 26), some (25, false)⟩, ⟨some 28, .bin .gtr (.t 27) (.c (.int .i64 5)), some (25, false)⟩, ⟨some 29, .pick (.t 25) (.c (.bool true)) (.t 28), none⟩, ⟨some 30, .mov (.t 29), none⟩, ⟨some 31, .mov (.t 6), some (30, false)⟩, ⟨some 32, .lenS (.t 31), some (30, false)⟩, ⟨some 33, .mov (.t 4), some (30, false)⟩, ⟨some 34, .iaddr 1 (.t 33) (.c (.int .i64 0)), some (30, false)⟩, ⟨some 35, .load false 1 (.t 34), some (30, false)⟩, ⟨some 36, .lenS (.t 35), some (30, false)⟩, ⟨some 37, .bin .neq (.t 32) (.t 36), some (30, false)⟩, ⟨some 38, .pick (.t 30) (.c (.bool true)) (.t 37), none⟩]) (.kl [6, 22, 23, 24, 25, 26, 27, 28, 29, 30, 31, 32, 33, 34, 35, 36, 37] (.cond (.t 38) (.kl [4, 16, 17, 18, 38] (.seq (.reg [⟨some 2, .mov (.c (.nilS)), none⟩, ⟨some 3, .mov (.c (.bool false)), none⟩]) (.ret))) (.skip))))))) (.kl [38] (.reg [⟨some 39, .bin .add (.t 18) (.c (.int .i64 1)), none⟩, ⟨some 18, .mov (.t 39), none⟩]))))))
def lp328_0 : C := lb328_0
def fi328 : FI := ⟨.seq (.reg [⟨some 2, .mov (.c (.nilS)), none⟩, ⟨some 3, .mov (.c (.bool false)), none⟩]) (.kl [2, 3] (.seq (.seq (.reg [⟨some 7, .mov (.t 0), none⟩, ⟨some 8, .lenS (.t 7), none⟩, ⟨some 9, .bin .gtr (.t 8) (.c (.int .i64 40)), none⟩]) (.kl [7, 8] (.cond (.t 9) (.kl [0, 9] (.seq (.reg [⟨some 2, .mov (.c (.nilS)), none⟩, ⟨some 3, .mov (.c (.bool false)), none⟩]) (.ret))) (.skip)))) (.kl [9] (.seq (.reg [⟨some 10, .mov (.t 0), none⟩, ⟨some 11, .call 337 [.t 10, .c (.int .u8 47)], none⟩, ⟨some 4, .mov (.t 11), none⟩]) (.kl [0, 10, 11] (.seq (.seq (.reg [⟨some 12, .mov (.t 4), none⟩, ⟨some 13, .lenV (.t 12), none⟩, ⟨some 14, .call 77 [.t 13, .c (.int .i64 1), .c (.int .i64 5)], none⟩, ⟨some 15, .un .not (.t 14), none⟩]) (.kl [12, 13, 14] (.cond (.t 15) (.kl [4, 15] (.seq (.reg [⟨some 2, .mov (.c (.nilS)), none⟩, ⟨some 3, .mov (.c (.bool false)), none⟩]) (.ret))) (.skip)))) (.kl [15] (.seq (.seq (.reg [⟨some 16, .mov (.t 4), none⟩, ⟨some 17, .lenV (.t 16), none⟩, ⟨some 18, .mov (.c (.int .i64 0)), none⟩]) (.blk 0 (.loop lp328_0))) (.seq (.reg [⟨some 40, .mov (.t 4), none⟩, ⟨some 2, .mov (.t 40), none⟩, ⟨some 3, .mov (.c (.bool true)), none⟩]) (.kl [4, 40] (.ret))))))))))), [.tmp 2, .tmp 3]⟩
-- lp371_0 HEAD [0, 1, 8, 9, 10] | exit 0: [0, 1] | ret: [4, 5]
/-- spec.boPlay -/
def lb371_0 : C := .kl [24] (.seq (.reg [⟨some 11, .bin .lss (.t 10) (.t 9), none⟩]) (.seq (.cond (.t 11) (.skip) (.kl [8, 9, 10, 11] (.exit 0))) (.kl [11] (.seq (.blk 1 (.seq (.reg [⟨some 12, .mov (.t 10), none⟩, ⟨some 13, .iaddr 2 (.t 8) (.t 10), none⟩, ⟨some 14, .load true 2 (.t 13), none⟩, ⟨some 7, .new [.int .i64 0, .int .i64 0], none⟩, ⟨some 6, .mov (.t 12), none⟩, ⟨none, .store 2 (.t 7) (.t 14), none⟩]) (.kl [12, 13, 14] (.seq (.seq (.reg [⟨some 15, .mov (.t 0), none⟩, ⟨some 16, .load true 2 (.t 7), none⟩, ⟨some 17, .call 333 [.t 15, .t 16], none⟩, ⟨some 18, .un .not (.t 17), none⟩]) (.kl [15, 16, 17] (.cond (.t 18) (.kl [1, 7, 8, 9, 10, 18] (.seq (.reg [⟨some 19, .mov (.t 0), none⟩, ⟨some 20, .mov (.t 6), none⟩, ⟨some 4, .mov (.t 19), none⟩, ⟨some 5, .mov (.t 20), none⟩]) (.kl [0, 6, 19, 20] (.ret)))) (.skip)))) (.kl [6, 18] (.reg [⟨some 21, .mov (.t 0), none⟩, ⟨some 22, .load true 2 (.t 7), none⟩, ⟨some 23, .call 334 [.t 21, .t 22], none⟩, ⟨some 0, .mov (.t 23), none⟩])))))) (.kl [7, 21, 22, 23] (.reg [⟨some 24, .bin .add (.t 10) (.c (.int .i64 1)), none⟩, ⟨some 10, .mov (.t 24), none⟩]))))))
def lp371_0 : C := lb371_0
def fi371 : FI := ⟨.seq (.reg [⟨some 4, .mov (.c (.nilS)), none⟩, ⟨some 5, .mov (.c (.int .i64 0)), none⟩]) (.kl [4, 5] (.seq (.seq (.reg [⟨some 8, .mov (.t 1), none⟩, ⟨some 9, .lenV (.t 8), none⟩, ⟨some 10, .mov (.c (.int .i64 0)), none⟩]) (.blk 0 (.loop lp371_0))) (.seq (.reg [⟨some 25, .mov (.t 0), none⟩, ⟨some 26, .mov (.t 1), none⟩, ⟨some 27, .lenV (.t 26), none⟩, ⟨some 4, .mov (.t 25), none⟩, ⟨some 5, .mov (.t 27), none⟩]) (.kl [0, 1, 25, 26, 27] (.ret))))), [.tmp 4, .tmp 5]⟩
/-- laws.toMove -/
def fi325 : FI := ⟨.seq (.reg [⟨some 1, .box (.t 0), none⟩, ⟨some 2, .new [.int .i64 0, .int .i64 0], none⟩]) (.kl [0] (.seq (.reg [⟨some 3, .new [.int .i64 0, .int .i64 0], none⟩]) (.seq (.reg [⟨some 4, .faddr 0 1 (.t 1), none⟩, ⟨some 5, .load false 1 (.t 4), none⟩, ⟨some 6, .faddr 0 1 (.t 3), none⟩, ⟨none, .store 1 (.t 6) (.t 5), none⟩]) (.kl [4, 5, 6] (.seq (.reg [⟨some 7, .faddr 1 1 (.t 1), none⟩, ⟨some 8, .load false 1 (.t 7), none⟩, ⟨some 9, .faddr 1 1 (.t 3), none⟩, ⟨none, .store 1 (.t 9) (.t 8), none⟩]) (.kl [1, 7, 8, 9] (.seq (.reg [⟨some 10, .load true 2 (.t 3), none⟩, ⟨none, .store 2 (.t 2) (.t 10), none⟩]) (.kl [3, 10] (.ret))))))))), [.cell true 2 2]⟩
/-- impl.IsBoard -/
def fi330 : FI := ⟨.seq (.reg [⟨some 2, .mov (.c (.bool false)), none⟩]) (.kl [2] (.seq (.seq (.reg [⟨some 4, .mov (.t 0), none⟩, ⟨some 5, .lenS (.t 4), none⟩, ⟨some 6, .bin .gtr (.t 5) (.c (.int .i64 30)), none⟩]) (.kl [4, 5] (.cond (.t 6) (.kl [0, 6] (.seq (.reg [⟨some 2, .mov (.c (.bool false)), none⟩]) (.ret))) (.skip)))) (.kl [6] (.seq (.reg [⟨some 7, .mov (.t 0), none⟩, ⟨some 8, .call 338 [.t 7, .c (.str [47])], none⟩, ⟨some 3, .new [.nilS], none⟩, ⟨none, .store 1 (.t 3) (.t 8), none⟩]) (.kl [0, 7, 8] (.seq (.reg [⟨some 9, .load false 1 (.t 3), none⟩, ⟨some 10, .lenV (.t 9), none⟩, ⟨some 11, .bin .leq (.t 10) (.c (.int .i64 5)), none⟩, ⟨some 12, .mov (.t 11), none⟩, ⟨some 13, .load false 1 (.t 3), some (12, true)⟩, ⟨some 14, .mkfn 339 [.t 3], some (12, true)⟩, ⟨some 15, .call 340 [.t 13, .t 14], some (12, true)⟩, ⟨some 16, .un .not (.t 15), some (12, true)⟩, ⟨some 17, .pick (.t 12) (.t 16) (.c (.bool false)), none⟩, ⟨some 2, .mov (.t 17), none⟩]) (.kl [3, 9, 10, 11, 12, 13, 14, 15, 16, 17] (.ret)))))))), [.tmp 2]⟩
/-- impl.boardOf -/
def fi331 : FI := ⟨.seq (.reg [⟨some 2, .new [.str [], .int .i64 0], none⟩]) (.seq (.reg [⟨some 4, .mov (.t 0), none⟩, ⟨some 5, .bin .add (.t 4) (.c (.str [47])), none⟩, ⟨some 6, .call 194 [.t 5, .c (.str [47])], none⟩, ⟨some 3, .mov (.t 6), none⟩]) (.kl [4, 5, 6] (.seq (.reg [⟨some 7, .mov (.t 0), none⟩, ⟨some 8, .call 341 [.t 7, .c (.str [47]), .c (.str [])], none⟩, ⟨some 9, .mov (.t 3), none⟩, ⟨some 10, .build [.str [], .int .i64 0] [(0, 1, .t 8), (1, 1, .t 9)], none⟩, ⟨none, .store 2 (.t 2) (.t 10), none⟩]) (.kl [0, 3, 7, 8, 9, 10] (.ret))))), [.cell true 2 2]⟩
/-- (impl.board).play -/
def fi346 : FI := ⟨.seq (.reg [⟨some 2, .box (.t 0), none⟩, ⟨some 4, .new [.str [], .int .i64 0], none⟩, ⟨some 5, .mov (.c (.int .i64 0)), none⟩]) (.kl [0, 5] (.seq (.reg [⟨some 9, .faddr 0 1 (.t 2), none⟩, ⟨some 10, .load false 1 (.t 9), none⟩, ⟨some 11, .mov (.t 1), none⟩, ⟨some 12, .mkfn 351 [.t 2], none⟩, ⟨some 13, .call 68 [.t 10, .t 11, .t 12], none⟩, ⟨some 8, .mov (.t 13), none⟩, ⟨some 14, .prj 0 (.t 8), none⟩, ⟨some 15, .prj 1 (.t 8), none⟩, ⟨some 6, .mov (.t 14), none⟩, ⟨some 7, .mov (.t 15), none⟩]) (.kl [1, 8, 9, 10, 11, 12, 13, 14, 15] (.seq (.reg [⟨some 16, .mov (.t 6), none⟩, ⟨some 17, .faddr 1 1 (.t 2), none⟩, ⟨some 18, .load false 1 (.t 17), none⟩, ⟨some 19, .build [.str [], .int .i64 0] [(0, 1, .t 16), (1, 1, .t 18)], none⟩, ⟨some 20, .mov (.t 7), none⟩, ⟨none, .store 2 (.t 4) (.t 19), none⟩, ⟨some 5, .mov (.t 20), none⟩]) (.kl [2, 6, 7, 16, 17, 18, 19, 20] (.ret)))))), [.cell true 2 4, .tmp 5]⟩
/-- laws.eqMove -/
def fi240 : FI := ⟨.seq (.reg [⟨some 2, .box (.t 0), none⟩, ⟨some 3, .box (.t 1), none⟩, ⟨some 4, .mov (.c (.bool false)), none⟩]) (.kl [0, 1, 4] (.seq (.seq (.reg [⟨some 5, .faddr 0 1 (.t 2), none⟩, ⟨some 6, .load false 1 (.t 5), none⟩, ⟨some 7, .faddr 0 1 (.t 3), none⟩, ⟨some 8, .load false 1 (.t 7), none⟩, ⟨some 9, .bin .neq (.t 6) (.t 8), none⟩]) (.kl [5, 6, 7, 8] (.cond (.t 9) (.kl [2, 3, 9] (.seq (.reg [⟨some 4, .mov (.c (.bool false)), none⟩]) (.ret))) (.skip)))) (.kl [9] (.seq (.seq (.reg [⟨some 10, .faddr 1 1 (.t 2), none⟩, ⟨some 11, .load false 1 (.t 10), none⟩, ⟨some 12, .faddr 1 1 (.t 3), none⟩, ⟨some 13, .load false 1 (.t 12), none⟩, ⟨some 14, .bin .neq (.t 11) (.t 13), none⟩]) (.kl [2, 3, 10, 11, 12, 13] (.cond (.t 14) (.kl [14] (.seq (.reg [⟨some 4, .mov (.c (.bool false)), none⟩]) (.ret))) (.skip)))) (.kl [14] (.seq (.reg [⟨some 4, .mov (.c (.bool true)), none⟩]) (.ret))))))), [.tmp 4]⟩
-- lp335_0 HEAD [3, 6, 7, 8] | exit 0: [3]
/-- spec.boText -/
def lb335_0 : C := .kl [20] (.seq (.reg [⟨some 9, .bin .lss (.t 8) (.t 7), none⟩]) (.seq (.cond (.t 9) (.skip) (.kl [6, 7, 8, 9] (.exit 0))) (.kl [9] (.seq (.blk 1 (.seq (.reg [⟨some 10, .mov (.t 8), none⟩, ⟨some 11, .iaddr 1 (.t 6) (.t 8), none⟩, ⟨some 12, .load false 1 (.t 11), none⟩, ⟨some 4, .mov (.t 10), none⟩, ⟨some 5, .mov (.t 12), none⟩]) (.kl [10, 11, 12] (.seq (.seq (.reg [⟨some 13, .mov (.t 4), none⟩, ⟨some 14, .bin .gtr (.t 13) (.c (.int .i64 0)), none⟩]) (.kl [4, 13] (.cond (.t 14) (.kl [14] (.reg [⟨some 15, .mov (.t 3), none⟩, ⟨some 16, .bin .add (.t 15) (.c (.str [47])), none⟩, ⟨some 3, .mov (.t 16), none⟩])) (.skip)))) (.kl [14, 15, 16] (.reg [⟨some 17, .mov (.t 3), none⟩, ⟨some 18, .mov (.t 5), none⟩, ⟨some 19, .bin .add (.t 17) (.t 18), none⟩, ⟨some 3, .mov (.t 19), none⟩])))))) (.kl [5, 17, 18, 19] (.reg [⟨some 20, .bin .add (.t 8) (.c (.int .i64 1)), none⟩, ⟨some 8, .mov (.t 20), none⟩]))))))
def lp335_0 : C := lb335_0
def fi335 : FI := ⟨.seq (.reg [⟨some 2, .mov (.c (.str [])), none⟩]) (.kl [2] (.seq (.reg [⟨some 3, .mov (.c (.str [])), none⟩]) (.seq (.seq (.reg [⟨some 6, .mov (.t 0), none⟩, ⟨some 7, .lenV (.t 6), none⟩, ⟨some 8, .mov (.c (.int .i64 0)), none⟩]) (.kl [0] (.blk 0 (.loop lp335_0)))) (.seq (.reg [⟨some 21, .mov (.t 3), none⟩, ⟨some 2, .mov (.t 21), none⟩]) (.kl [3, 21] (.ret)))))), [.tmp 2]⟩
-- lp347_0 HEAD [1, 3, 4] | exit 0: [3]
/-- (impl.board).text -/
def lb347_0 : C := .kl [11, 12, 13, 14] (.seq (.seq (.reg [⟨some 6, .mov (.t 4), none⟩, ⟨some 7, .faddr 0 1 (.t 1), none⟩, ⟨some 8, .load false 1 (.t 7), none⟩, ⟨some 9, .lenS (.t 8), none⟩, ⟨some 10, .bin .lss (.t 6) (.t 9), none⟩]) (.kl [6, 7, 8, 9] (.cond (.t 10) (.skip) (.kl [1, 4, 10] (.exit 0))))) (.kl [10] (.seq (.blk 1 (.reg [⟨some 15, .mov (.t 3), none⟩, ⟨some 16, .faddr 0 1 (.t 1), none⟩, ⟨some 17, .load false 1 (.t 16), none⟩, ⟨some 18, .mov (.t 4), none⟩, ⟨some 19, .mov (.t 4), none⟩, ⟨some 20, .faddr 1 1 (.t 1), none⟩, ⟨some 21, .load false 1 (.t 20), none⟩, ⟨some 22, .bin .add (.t 19) (.t 21), none⟩, ⟨some 23, .subS (.t 17) (some (.t 18)) (some (.t 22)), none⟩, ⟨some 24, .lit 1 1 [.str []] [(0, 1, .t 23)], none⟩, ⟨some 25, .app 1 (.t 15) (.t 24), none⟩, ⟨some 3, .mov (.t 25), none⟩])) (.kl [15, 16, 17, 18, 19, 20, 21, 22, 23, 24, 25] (.reg [⟨some 11, .mov (.t 4), none⟩, ⟨some 12, .faddr 1 1 (.t 1), none⟩, ⟨some 13, .load false 1 (.t 12), none⟩, ⟨some 14, .bin .add (.t 11) (.t 13), none⟩, ⟨some 4, .mov (.t 14), none⟩])))))
def lp347_0 : C := lb347_0
def fi347 : FI := ⟨.seq (.reg [⟨some 1, .box (.t 0), none⟩, ⟨some 2, .mov (.c (.str [])), none⟩]) (.kl [0, 2] (.seq (.reg [⟨some 5, .lit0, none⟩, ⟨some 3, .mov (.t 5), none⟩]) (.kl [5] (.seq (.seq (.reg [⟨some 4, .mov (.c (.int .i64 0)), none⟩]) (.blk 0 (.loop lp347_0))) (.seq (.reg [⟨some 26, .mov (.t 3), none⟩, ⟨some 27, .call 255 [.t 26, .c (.str [47])], none⟩, ⟨some 2, .mov (.t 27), none⟩]) (.kl [3, 26, 27] (.ret))))))), [.tmp 2]⟩
-- lp337_0 HEAD [0, 1, 5, 6, 7] | exit 0: [0, 5, 6]
/-- spec.l1Split -/
def lb337_0 : C := .kl [12, 13] (.seq (.seq (.reg [⟨some 8, .mov (.t 7), none⟩, ⟨some 9, .mov (.t 0), none⟩, ⟨some 10, .lenS (.t 9), none⟩, ⟨some 11, .bin .lss (.t 8) (.t 10), none⟩]) (.kl [8, 9, 10] (.cond (.t 11) (.skip) (.kl [1, 7, 11] (.exit 0))))) (.kl [11] (.seq (.blk 1 (.seq (.reg [⟨some 14, .mov (.t 0), none⟩, ⟨some 15, .mov (.t 7), none⟩, ⟨some 16, .idxS (.t 14) (.t 15), none⟩, ⟨some 17, .mov (.t 1), none⟩, ⟨some 18, .bin .eql (.t 16) (.t 17), none⟩]) (.kl [14, 15, 16, 17] (.cond (.t 18) (.kl [18] (.seq (.reg [⟨some 19, .mov (.t 5), none⟩, ⟨some 20, .mov (.t 0), none⟩, ⟨some 21, .mov (.t 6), none⟩, ⟨some 22, .mov (.t 7), none⟩, ⟨some 23, .subS (.t 20) (some (.t 21)) (some (.t 22)), none⟩, ⟨some 24, .lit 1 1 [.str []] [(0, 1, .t 23)], none⟩, ⟨some 25, .app 1 (.t 19) (.t 24), none⟩, ⟨some 5, .mov (.t 25), none⟩]) (.kl [6, 19, 20, 21, 22, 23, 24, 25] (.reg [⟨some 26, .mov (.t 7), none⟩, ⟨some 27, .bin .add (.t 26) (.c (.int .i64 1)), none⟩, ⟨some 6, .mov (.t 27), none⟩])))) (.skip))))) (.kl [18, 26, 27] (.reg [⟨some 12, .mov (.t 7), none⟩, ⟨some 13, .bin .add (.t 12) (.c (.int .i64 1)), none⟩, ⟨some 7, .mov (.t 13), none⟩])))))
def lp337_0 : C := lb337_0
def fi337 : FI := ⟨.seq (.reg [⟨some 4, .mov (.c (.nilS)), none⟩]) (.kl [4] (.seq (.reg [⟨some 5, .mov (.c (.nilS)), none⟩]) (.seq (.reg [⟨some 6, .mov (.c (.int .i64 0)), none⟩]) (.seq (.seq (.reg [⟨some 7, .mov (.c (.int .i64 0)), none⟩]) (.blk 0 (.loop lp337_0))) (.seq (.reg [⟨some 28, .mov (.t 5), none⟩, ⟨some 29, .mov (.t 0), none⟩, ⟨some 30, .mov (.t 6), none⟩, ⟨some 31, .subS (.t 29) (some (.t 30)) none, none⟩, ⟨some 32, .lit 1 1 [.str []] [(0, 1, .t 31)], none⟩, ⟨some 33, .app 1 (.t 28) (.t 32), none⟩, ⟨some 4, .mov (.t 33), none⟩]) (.kl [0, 5, 6, 28, 29, 30, 31, 32, 33] (.ret))))))), [.tmp 4]⟩
/-- spec.l1In -/
def fi77 : FI := ⟨.seq (.reg [⟨some 6, .mov (.c (.bool false)), none⟩]) (.kl [6] (.seq (.reg [⟨some 7, .mov (.t 0), none⟩, ⟨some 8, .mov (.t 1), none⟩, ⟨some 9, .bin .geq (.t 7) (.t 8), none⟩, ⟨some 10, .mov (.t 9), none⟩, ⟨some 11, .mov (.t 0), some (10, true)⟩, ⟨some 12, .mov (.t 2), some (10, true)⟩, ⟨some 13, .bin .leq (.t 11) (.t 12), some (10, true)⟩, ⟨some 14, .pick (.t 10) (.t 13) (.c (.bool false)), none⟩, ⟨some 6, .mov (.t 14), none⟩]) (.kl [0, 1, 2, 7, 8, 9, 10, 11, 12, 13, 14] (.ret)))), [.tmp 6]⟩
-- lp104_0 HEAD [0, 3] | exit 0: [] | ret: [2]
/-- spec.liGood -/
def lb104_0 : C := .kl [12, 13] (.seq (.seq (.reg [⟨some 8, .mov (.t 3), none⟩, ⟨some 9, .mov (.t 0), none⟩, ⟨some 10, .lenS (.t 9), none⟩, ⟨some 11, .bin .lss (.t 8) (.t 10), none⟩]) (.kl [8, 9, 10] (.cond (.t 11) (.skip) (.kl [0, 3, 11] (.exit 0))))) (.kl [11] (.seq (.blk 1 (.seq (.reg [⟨some 14, .mov (.t 0), none⟩, ⟨some 15, .mov (.t 3), none⟩, ⟨some 16, .idxS (.t 14) (.t 15), none⟩, ⟨some 17, .bin .neq (.t 16) (.c (.int .u8 84)), none⟩, ⟨some 18, .mov (.t 17), none⟩, ⟨some 19, .mov (.t 0), some (18, true)⟩, ⟨some 20, .mov (.t 3), some (18, true)⟩, ⟨some 21, .idxS (.t 19) (.t 20), some (18, true)⟩, ⟨some 22, .bin .neq (.t 21) (.c (.int .u8 70)), some (18, true)⟩, ⟨some 23, .pick (.t 18) (.t 22) (.c (.bool false)), none⟩, ⟨some 24, .mov (.t 23), none⟩, ⟨some 25, .mov (.t 0), some (24, true)⟩, ⟨some 26, .mov (.t 3), some (24, true)⟩, ⟨some 27, .idxS (.t 25) (.t 26), some (24, true)⟩, ⟨some 28, .bin .neq (.t 27) (.c (.int .u8 46)), some (24, true)⟩, ⟨some 29, .pick (.t 24) (.t 28) (.c (.bool false)), none⟩]) (.kl [14, 15, 16, 17, 18, 19, 20, 21, 22, 23, 24, 25, 26, 27, 28] (.cond (.t 29) (.kl [0, 3, 29] (.seq (.reg [⟨some 2, .mov (.c (.bool false)), none⟩]) (.ret))) (.skip))))) (.kl [29] (.reg [⟨some 12, .mov (.t 3), none⟩, ⟨some 13, .bin .add (.t 12) (.c (.int .i64 1)), none⟩, ⟨some 3, .mov (.t 13), none⟩])))))
def lp104_0 : C := lb104_0
def fi104 : FI := ⟨.seq (.reg [⟨some 2, .mov (.c (.bool false)), none⟩]) (.kl [2] (.seq (.seq (.reg [⟨some 4, .mov (.t 0), none⟩, ⟨some 5, .lenS (.t 4), none⟩, ⟨some 6, .call 77 [.t 5, .c (.int .i64 1), .c (.int .i64 12)], none⟩, ⟨some 7, .un .not (.t 6), none⟩]) (.kl [4, 5, 6] (.cond (.t 7) (.kl [0, 7] (.seq (.reg [⟨some 2, .mov (.c (.bool false)), none⟩]) (.ret))) (.skip)))) (.kl [7] (.seq (.seq (.reg [⟨some 3, .mov (.c (.int .i64 0)), none⟩]) (.blk 0 (.loop lp104_0))) (.seq (.reg [⟨some 2, .mov (.c (.bool true)), none⟩]) (.ret)))))), [.tmp 2]⟩
-- lp333_0 HEAD [0, 3, 5, 6, 7, 8, 9, 10, 11] | exit 1: [] | exit 3: [0, 3, 5, 6, 7, 8, 9, 10, 11] | exit 4: [0, 3, 5, 6, 7, 8, 9, 10, 11, 12, 13, 14] | ret: [4]
-- lp333_1 HEAD [0, 3, 5, 6, 7, 8, 9, 10, 11, 12, 13, 14] | exit 3: [0, 3, 5, 6, 7, 8, 9, 10, 11] | exit 4: [0, 3, 5, 6, 7, 8, 9, 10, 11, 12, 13, 14] | ret: [4]
/-- spec.boCan -/
def lb333_1 : C := .kl [78, 79] (.seq (.seq (.reg [⟨some 76, .mov (.t 14), none⟩, ⟨some 77, .bin .leq (.t 76) (.c (.int .i64 2)), none⟩]) (.kl [76] (.cond (.t 77) (.skip) (.kl [12, 13, 14, 77] (.exit 3))))) (.kl [77] (.seq (.blk 4 (.seq (.seq (.reg [⟨some 80, .mov (.t 0), none⟩, ⟨some 81, .mov (.t 6), none⟩, ⟨some 82, .mov (.t 14), none⟩, ⟨some 83, .mov (.t 12), none⟩, ⟨some 84, .bin .mul (.t 82) (.t 83), none⟩, ⟨some 85, .bin .add (.t 81) (.t 84), none⟩, ⟨some 86, .mov (.t 7), none⟩, ⟨some 87, .mov (.t 14), none⟩, ⟨some 88, .mov (.t 13), none⟩, ⟨some 89, .bin .mul (.t 87) (.t 88), none⟩, ⟨some 90, .bin .add (.t 86) (.t 89), none⟩, ⟨some 91, .call 345 [.t 80, .t 85, .t 90], none⟩, ⟨some 92, .bin .eql (.t 91) (.c (.int .u8 32)), none⟩, ⟨some 93, .mov (.t 92), none⟩, ⟨some 94, .faddr 1 1 (.t 3), some (93, false)⟩, ⟨some 95, .load false 1 (.t 94), some (93, false)⟩, ⟨some 96, .mov (.t 7), some (93, false)⟩, ⟨some 97, .mov (.t 14), some (93, false)⟩, ⟨some 98, .mov (.t 13), some (93, false)⟩, ⟨some 99, .bin .mul (.t 97) (.t 98), some (93, false)⟩, ⟨some 100, .bin .add (.t 96) (.t 99), some (93, false)⟩, ⟨some 101, .mov (.t 5), some (93, false)⟩, ⟨some 102, .bin .mul (.t 100) (.t 101), some (93, false)⟩, ⟨some 103, .mov (.t 6), some (93, false)⟩, ⟨some 104, .bin .add (.t 102) (.t 103), some (93, false)⟩, ⟨some 105, .mov (.t 14), some (93, false)⟩, ⟨some 106, .mov (.t 12), some (93, false)⟩, ⟨some 107, .bin .mul (.t 105) (.t 106), some (93, false)⟩, ⟨some 108, .bin .add (.t 104) (.t 107), some (93, false)⟩, ⟨some 109, .bin .neq (.t 95) (.t 108), some (93, false)⟩, ⟨some 110, .pick (.t 93) (.c (.bool true)) (.t 109), none⟩]) (.kl [80, 81, 82, 83, 84, 85, 86, 87, 88, 89, 90, 91, 92, 93, 94, 95, 96, 97, 98, 99, 100, 101, 102, 103, 104, 105, 106, 107, 108, 109] (.cond (.t 110) (.kl [110] (.exit 4)) (.skip)))) (.kl [3, 5, 9, 11, 110] (.seq (.reg [⟨some 111, .mov (.t 8), none⟩, ⟨some 112, .bin .eql (.t 111) (.c (.int .u8 46)), none⟩, ⟨some 113, .mov (.t 112), none⟩, ⟨some 114, .mov (.t 14), some (113, true)⟩, ⟨some 115, .bin .eql (.t 114) (.c (.int .i64 1)), some (113, true)⟩, ⟨some 116, .mov (.t 115), some (113, true)⟩, ⟨some 117, .mov (.t 0), some (116, false)⟩, ⟨some 118, .mov (.t 6), some (116, false)⟩, ⟨some 119, .mov (.t 12), some (116, false)⟩, ⟨some 120, .bin .add (.t 118) (.t 119), some (116, false)⟩, ⟨some 121, .mov (.t 7), some (116, false)⟩, ⟨some 122, .mov (.t 13), some (116, false)⟩, ⟨some 123, .bin .add (.t 121) (.t 122), some (116, false)⟩, ⟨some 124, .call 345 [.t 117, .t 120, .t 123], some (116, false)⟩, ⟨some 125, .mov (.t 10), some (116, false)⟩, ⟨some 126, .bin .eql (.t 124) (.t 125), some (116, false)⟩, ⟨some 127, .pick (.t 116) (.c (.bool true)) (.t 126), some (113, true)⟩, ⟨some 128, .pick (.t 113) (.t 127) (.c (.bool false)), none⟩, ⟨some 4, .mov (.t 128), none⟩]) (.kl [0, 6, 7, 8, 10, 12, 13, 14, 111, 112, 113, 114, 115, 116, 117, 118, 119, 120, 121, 122, 123, 124, 125, 126, 127, 128] (.ret)))))) (.reg [⟨some 78, .mov (.t 14), none⟩, ⟨some 79, .bin .add (.t 78) (.c (.int .i64 1)), none⟩, ⟨some 14, .mov (.t 79), none⟩]))))
def lp333_1 : C := lb333_1
def lb333_0 : C := .kl [67, 68] (.seq (.seq (.reg [⟨some 65, .mov (.t 11), none⟩, ⟨some 66, .bin .lss (.t 65) (.c (.int .i64 2)), none⟩]) (.kl [65] (.cond (.t 66) (.skip) (.kl [0, 3, 5, 6, 7, 8, 9, 10, 11, 66] (.exit 1))))) (.kl [66] (.seq (.blk 2 (.seq (.reg [⟨some 69, .mov (.t 9), none⟩, ⟨some 70, .mov (.t 11), none⟩, ⟨some 71, .bin .sub (.c (.int .i64 1)) (.t 70), none⟩, ⟨some 72, .bin .mul (.t 69) (.t 71), none⟩, ⟨some 73, .mov (.t 9), none⟩, ⟨some 74, .mov (.t 11), none⟩, ⟨some 75, .bin .mul (.t 73) (.t 74), none⟩, ⟨some 12, .mov (.t 72), none⟩, ⟨some 13, .mov (.t 75), none⟩]) (.kl [69, 70, 71, 72, 73, 74, 75] (.seq (.reg [⟨some 14, .mov (.c (.int .i64 1)), none⟩]) (.blk 3 (.loop lp333_1)))))) (.reg [⟨some 67, .mov (.t 11), none⟩, ⟨some 68, .bin .add (.t 67) (.c (.int .i64 1)), none⟩, ⟨some 11, .mov (.t 68), none⟩]))))
def lp333_0 : C := lb333_0
def fi333 : FI := ⟨.seq (.reg [⟨some 3, .box (.t 1), none⟩, ⟨some 4, .mov (.c (.bool false)), none⟩]) (.kl [1, 4] (.seq (.reg [⟨some 15, .mov (.t 0), none⟩, ⟨some 16, .iaddr 1 (.t 15) (.c (.int .i64 0)), none⟩, ⟨some 17, .load false 1 (.t 16), none⟩, ⟨some 18, .lenS (.t 17), none⟩, ⟨some 5, .mov (.t 18), none⟩]) (.kl [15, 16, 17, 18] (.seq (.seq (.reg [⟨some 19, .faddr 0 1 (.t 3), none⟩, ⟨some 20, .load false 1 (.t 19), none⟩, ⟨some 21, .mov (.t 5), none⟩, ⟨some 22, .mov (.t 0), none⟩, ⟨some 23, .lenV (.t 22), none⟩, ⟨some 24, .bin .mul (.t 21) (.t 23), none⟩, ⟨some 25, .bin .sub (.t 24) (.c (.int .i64 1)), none⟩, ⟨some 26, .call 77 [.t 20, .c (.int .i64 0), .t 25], none⟩, ⟨some 27, .un .not (.t 26), none⟩, ⟨some 28, .mov (.t 27), none⟩, ⟨some 29, .faddr 1 1 (.t 3), some (28, false)⟩, ⟨some 30, .load false 1 (.t 29), some (28, false)⟩, ⟨some 31, .mov (.t 5), some (28, false)⟩, ⟨some 32, .mov (.t 0), some (28, false)⟩, ⟨some 33, .lenV (.t 32), some (28, false)⟩, ⟨some 34, .bin .mul (.t 31) (.t 33), some (28, false)⟩, ⟨some 35, .bin .sub (.t 34) (.c (.int .i64 1)), some (28, false)⟩, ⟨some 36, .call 77 [.t 30, .c (.int .i64 0), .t 35], some (28, false)⟩, ⟨some 37, .un .not (.t 36), some (28, false)⟩, ⟨some 38, .pick (.t 28) (.c (.bool true)) (.t 37), none⟩]) (.kl [19, 20, 21, 22, 23, 24, 25, 26, 27, 28, 29, 30, 31, 32, 33, 34, 35, 36, 37] (.cond (.t 38) (.kl [0, 3, 5, 38] (.seq (.reg [⟨some 4, .mov (.c (.bool false)), none⟩]) (.ret))) (.skip)))) (.kl [38] (.seq (.drw [⟨some 39, .faddr 0 1 (.t 3), none⟩, ⟨some 40, .load false 1 (.t 39), none⟩, ⟨some 41, .mov (.t 5), none⟩, ⟨some 42, .bin .rem (.t 40) (.t 41), none⟩, ⟨some 43, .faddr 0 1 (.t 3), none⟩, ⟨some 44, .load false 1 (.t 43), none⟩, ⟨some 45, .mov (.t 5), none⟩, ⟨some 46, .bin .quo (.t 44) (.t 45), none⟩, ⟨some 6, .mov (.t 42), none⟩, ⟨some 7, .mov (.t 46), none⟩] []) (.kl [39, 40, 41, 42, 43, 44, 45, 46] (.seq (.drw [⟨some 47, .mov (.t 0), none⟩, ⟨some 48, .faddr 1 1 (.t 3), none⟩, ⟨some 49, .load false 1 (.t 48), none⟩, ⟨some 50, .mov (.t 5), none⟩, ⟨some 51, .bin .rem (.t 49) (.t 50), none⟩, ⟨some 52, .faddr 1 1 (.t 3), none⟩, ⟨some 53, .load false 1 (.t 52), none⟩, ⟨some 54, .mov (.t 5), none⟩, ⟨some 55, .bin .quo (.t 53) (.t 54), none⟩, ⟨some 56, .call 345 [.t 47, .t 51, .t 55], none⟩, ⟨some 8, .mov (.t 56), none⟩] []) (.kl [47, 48, 49, 50, 51, 52, 53, 54, 55, 56] (.seq (.reg [⟨some 9, .mov (.c (.int .i64 1)), none⟩, ⟨some 10, .mov (.c (.int .u8 70)), none⟩]) (.seq (.seq (.reg [⟨some 57, .mov (.t 0), none⟩, ⟨some 58, .mov (.t 6), none⟩, ⟨some 59, .mov (.t 7), none⟩, ⟨some 60, .call 345 [.t 57, .t 58, .t 59], none⟩]) (.kl [57, 58, 59] (.blk 0 (.seq (.reg [⟨some 62, .bin .eql (.t 60) (.c (.int .u8 84)), none⟩, ⟨some 61, .mov (.t 62), none⟩]) (.kl [62] (.cond (.t 61) (.skip) (.kl [9, 10, 61] (.seq (.reg [⟨some 64, .bin .eql (.t 60) (.c (.int .u8 70)), none⟩, ⟨some 63, .mov (.t 64), none⟩]) (.kl [60, 64] (.cond (.t 63) (.kl [63] (.seq (.reg [⟨some 9, .mov (.c (.int .i64 (-1))), none⟩]) (.reg [⟨some 10, .mov (.c (.int .u8 84)), none⟩]))) (.kl [0, 3, 5, 6, 7, 8, 63] (.seq (.reg [⟨some 4, .mov (.c (.bool false)), none⟩]) (.ret))))))))))))) (.kl [60, 61] (.seq (.seq (.reg [⟨some 11, .mov (.c (.int .i64 0)), none⟩]) (.blk 1 (.loop lp333_0))) (.seq (.reg [⟨some 4, .mov (.c (.bool false)), none⟩]) (.ret))))))))))))))), [.tmp 4]⟩
/-- spec.boMake -/
def fi334 : FI := ⟨.seq (.reg [⟨some 3, .box (.t 1), none⟩, ⟨some 4, .mov (.c (.nilS)), none⟩]) (.kl [1, 4] (.seq (.reg [⟨some 8, .mov (.t 0), none⟩, ⟨some 9, .iaddr 1 (.t 8) (.c (.int .i64 0)), none⟩, ⟨some 10, .load false 1 (.t 9), none⟩, ⟨some 11, .lenS (.t 10), none⟩, ⟨some 5, .mov (.t 11), none⟩]) (.kl [8, 9, 10, 11] (.seq (.drw [⟨some 12, .mov (.t 0), none⟩, ⟨some 13, .faddr 0 1 (.t 3), none⟩, ⟨some 14, .load false 1 (.t 13), none⟩, ⟨some 15, .mov (.t 5), none⟩, ⟨some 16, .bin .quo (.t 14) (.t 15), none⟩, ⟨some 17, .iaddr 1 (.t 12) (.t 16), none⟩, ⟨some 18, .load false 1 (.t 17), none⟩, ⟨some 19, .faddr 0 1 (.t 3), none⟩, ⟨some 20, .load false 1 (.t 19), none⟩, ⟨some 21, .mov (.t 5), none⟩, ⟨some 22, .bin .rem (.t 20) (.t 21), none⟩, ⟨some 23, .faddr 0 1 (.t 3), none⟩, ⟨some 24, .load false 1 (.t 23), none⟩, ⟨some 25, .mov (.t 5), none⟩, ⟨some 26, .bin .rem (.t 24) (.t 25), none⟩, ⟨some 27, .bin .add (.t 26) (.c (.int .i64 1)), none⟩, ⟨some 28, .subS (.t 18) (some (.t 22)) (some (.t 27)), none⟩, ⟨some 6, .mov (.t 28), none⟩] []) (.kl [12, 13, 14, 15, 16, 17, 18, 19, 20, 21, 22, 23, 24, 25, 26, 27, 28] (.seq (.reg [⟨some 29, .mov (.t 0), none⟩, ⟨some 30, .call 206 [.t 29], none⟩, ⟨some 7, .mov (.t 30), none⟩]) (.kl [0, 29, 30] (.seq (.drw [⟨some 31, .mov (.t 7), none⟩, ⟨some 32, .faddr 0 1 (.t 3), none⟩, ⟨some 33, .load false 1 (.t 32), none⟩, ⟨some 34, .mov (.t 5), none⟩, ⟨some 35, .bin .quo (.t 33) (.t 34), none⟩, ⟨some 36, .mov (.t 7), none⟩, ⟨some 37, .faddr 0 1 (.t 3), none⟩, ⟨some 38, .load false 1 (.t 37), none⟩, ⟨some 39, .mov (.t 5), none⟩, ⟨some 40, .bin .quo (.t 38) (.t 39), none⟩, ⟨some 41, .iaddr 1 (.t 36) (.t 40), none⟩, ⟨some 42, .load false 1 (.t 41), none⟩, ⟨some 43, .faddr 0 1 (.t 3), none⟩, ⟨some 44, .load false 1 (.t 43), none⟩, ⟨some 45, .mov (.t 5), none⟩, ⟨some 46, .bin .rem (.t 44) (.t 45), none⟩, ⟨some 47, .call 108 [.t 42, .t 46, .c (.str [46])], none⟩, ⟨some 48, .iaddr 1 (.t 31) (.t 35), none⟩, ⟨none, .store 1 (.t 48) (.t 47), none⟩] [(2, 16)]) (.kl [31, 32, 33, 34, 35, 36, 37, 38, 39, 40, 41, 42, 43, 44, 45, 46, 47, 48] (.seq (.drw [⟨some 49, .mov (.t 7), none⟩, ⟨some 50, .faddr 1 1 (.t 3), none⟩, ⟨some 51, .load false 1 (.t 50), none⟩, ⟨some 52, .mov (.t 5), none⟩, ⟨some 53, .bin .quo (.t 51) (.t 52), none⟩, ⟨some 54, .mov (.t 7), none⟩, ⟨some 55, .faddr 1 1 (.t 3), none⟩, ⟨some 56, .load false 1 (.t 55), none⟩, ⟨some 57, .mov (.t 5), none⟩, ⟨some 58, .bin .quo (.t 56) (.t 57), none⟩, ⟨some 59, .iaddr 1 (.t 54) (.t 58), none⟩, ⟨some 60, .load false 1 (.t 59), none⟩, ⟨some 61, .faddr 1 1 (.t 3), none⟩, ⟨some 62, .load false 1 (.t 61), none⟩, ⟨some 63, .mov (.t 5), none⟩, ⟨some 64, .bin .rem (.t 62) (.t 63), none⟩, ⟨some 65, .mov (.t 6), none⟩, ⟨some 66, .call 108 [.t 60, .t 64, .t 65], none⟩, ⟨some 67, .iaddr 1 (.t 49) (.t 53), none⟩, ⟨none, .store 1 (.t 67) (.t 66), none⟩] [(2, 17)]) (.kl [3, 5, 6, 49, 50, 51, 52, 53, 54, 55, 56, 57, 58, 59, 60, 61, 62, 63, 64, 65, 66, 67] (.seq (.reg [⟨some 68, .mov (.t 7), none⟩, ⟨some 4, .mov (.t 68), none⟩]) (.kl [7, 68] (.ret)))))))))))))), [.tmp 4]⟩
/-- slices.ContainsFunc[[]string,string] -/
def fi340 : FI := ⟨.seq (.reg [⟨some 4, .mov (.c (.bool false)), none⟩]) (.kl [4] (.seq (.reg [⟨some 5, .mov (.t 0), none⟩, ⟨some 6, .mov (.t 1), none⟩, ⟨some 7, .call 184 [.t 5, .t 6], none⟩, ⟨some 8, .bin .geq (.t 7) (.c (.int .i64 0)), none⟩, ⟨some 4, .mov (.t 8), none⟩]) (.kl [0, 1, 5, 6, 7, 8] (.ret)))), [.tmp 4]⟩
/-- impl.IsBoard$1 -/
def fi339 : FI := ⟨.seq (.reg [⟨some 3, .mov (.c (.bool false)), none⟩]) (.kl [3] (.seq (.reg [⟨some 4, .mov (.t 0), none⟩, ⟨some 5, .call 82 [.t 4, .c (.int .i64 5)], none⟩, ⟨some 6, .un .not (.t 5), none⟩, ⟨some 7, .mov (.t 6), none⟩, ⟨some 8, .mov (.t 0), some (7, false)⟩, ⟨some 9, .lenS (.t 8), some (7, false)⟩, ⟨some 10, .load false 1 (.t 1), some (7, false)⟩, ⟨some 11, .iaddr 1 (.t 10) (.c (.int .i64 0)), some (7, false)⟩, ⟨some 12, .load false 1 (.t 11), some (7, false)⟩, ⟨some 13, .lenS (.t 12), some (7, false)⟩, ⟨some 14, .bin .neq (.t 9) (.t 13), some (7, false)⟩, ⟨some 15, .pick (.t 7) (.c (.bool true)) (.t 14), none⟩, ⟨some 3, .mov (.t 15), none⟩]) (.kl [0, 1, 4, 5, 6, 7, 8, 9, 10, 11, 12, 13, 14, 15] (.ret)))), [.tmp 3]⟩
/-- impl.isLineOf -/
def fi82 : FI := ⟨.seq (.reg [⟨some 4, .mov (.c (.bool false)), none⟩]) (.kl [4] (.seq (.reg [⟨some 5, .mov (.t 0), none⟩, ⟨some 6, .lenS (.t 5), none⟩, ⟨some 7, .mov (.t 1), none⟩, ⟨some 8, .call 74 [.t 6, .c (.int .i64 1), .t 7], none⟩, ⟨some 9, .mov (.t 8), none⟩, ⟨some 10, .mov (.t 0), some (9, true)⟩, ⟨some 11, .call 111 [.t 10, .c (.str [46, 70, 84])], some (9, true)⟩, ⟨some 12, .bin .eql (.t 11) (.c (.str [])), some (9, true)⟩, ⟨some 13, .pick (.t 9) (.t 12) (.c (.bool false)), none⟩, ⟨some 4, .mov (.t 13), none⟩]) (.kl [0, 1, 5, 6, 7, 8, 9, 10, 11, 12, 13] (.ret)))), [.tmp 4]⟩
-- lp68_0 HEAD [0, 1, 2, 10, 11, 12] | exit 0: [0, 1] | ret: [6, 7]
/-- impl.played -/
def lb68_0 : C := .kl [26] (.seq (.reg [⟨some 13, .bin .lss (.t 12) (.t 11), none⟩]) (.seq (.cond (.t 13) (.skip) (.kl [2, 10, 11, 12, 13] (.exit 0))) (.kl [13] (.seq (.blk 1 (.seq (.reg [⟨some 14, .mov (.t 12), none⟩, ⟨some 15, .iaddr 2 (.t 10) (.t 12), none⟩, ⟨some 16, .load true 2 (.t 15), none⟩, ⟨some 9, .new [.int .i64 0, .int .i64 0], none⟩, ⟨some 8, .mov (.t 14), none⟩, ⟨none, .store 2 (.t 9) (.t 16), none⟩]) (.kl [14, 15, 16] (.seq (.seq (.reg [⟨some 17, .mov (.t 2), none⟩, ⟨some 18, .mov (.t 0), none⟩, ⟨some 19, .load true 2 (.t 9), none⟩, ⟨some 20, .callv (.t 17) [.t 18, .t 19], none⟩, ⟨some 21, .un .not (.t 20), none⟩]) (.kl [17, 18, 19, 20] (.cond (.t 21) (.kl [0, 1, 2, 9, 10, 11, 12, 21] (.seq (.reg [⟨some 22, .mov (.t 8), none⟩, ⟨some 6, .mov (.c (.str [])), none⟩, ⟨some 7, .mov (.t 22), none⟩]) (.kl [8, 22] (.ret)))) (.skip)))) (.kl [8, 21] (.reg [⟨some 23, .mov (.t 0), none⟩, ⟨some 24, .load true 2 (.t 9), none⟩, ⟨some 25, .call 61 [.t 23, .t 24], none⟩, ⟨some 0, .mov (.t 25), none⟩])))))) (.kl [9, 23, 24, 25] (.reg [⟨some 26, .bin .add (.t 12) (.c (.int .i64 1)), none⟩, ⟨some 12, .mov (.t 26), none⟩]))))))
def lp68_0 : C := lb68_0
def fi68 : FI := ⟨.seq (.reg [⟨some 6, .mov (.c (.str [])), none⟩, ⟨some 7, .mov (.c (.int .i64 0)), none⟩]) (.kl [6, 7] (.seq (.seq (.reg [⟨some 10, .mov (.t 1), none⟩, ⟨some 11, .lenV (.t 10), none⟩, ⟨some 12, .mov (.c (.int .i64 0)), none⟩]) (.blk 0 (.loop lp68_0))) (.seq (.reg [⟨some 27, .mov (.t 0), none⟩, ⟨some 28, .mov (.t 1), none⟩, ⟨some 29, .lenV (.t 28), none⟩, ⟨some 6, .mov (.t 27), none⟩, ⟨some 7, .mov (.t 29), none⟩]) (.kl [0, 1, 27, 28, 29] (.ret))))), [.tmp 6, .tmp 7]⟩
/-- (impl.board).play$1 -/
def fi351 : FI := ⟨.seq (.reg [⟨some 4, .box (.t 1), none⟩, ⟨some 5, .mov (.c (.bool false)), none⟩]) (.kl [1, 5] (.seq (.drw [⟨some 6, .mov (.t 0), none⟩, ⟨some 7, .faddr 1 1 (.t 2), none⟩, ⟨some 8, .load false 1 (.t 7), none⟩, ⟨some 9, .build [.str [], .int .i64 0] [(0, 1, .t 6), (1, 1, .t 8)], none⟩, ⟨some 10, .call 332 [.t 9], none⟩, ⟨some 11, .load true 2 (.t 4), none⟩, ⟨some 12, .call 60 [.t 10, .t 11], none⟩, ⟨some 5, .mov (.t 12), none⟩] [(5, 4)]) (.kl [0, 2, 4, 6, 7, 8, 9, 10, 11, 12] (.ret)))), [.tmp 5]⟩
/-- slices.Contains[[]impl.Move,impl.Move] -/
def fi60 : FI := ⟨.seq (.reg [⟨some 3, .box (.t 1), none⟩, ⟨some 4, .mov (.c (.bool false)), none⟩]) (.kl [1, 4] (.seq (.reg [⟨some 5, .mov (.t 0), none⟩, ⟨some 6, .load true 2 (.t 3), none⟩, ⟨some 7, .call 133 [.t 5, .t 6], none⟩, ⟨some 8, .bin .geq (.t 7) (.c (.int .i64 0)), none⟩, ⟨some 4, .mov (.t 8), none⟩]) (.kl [0, 3, 5, 6, 7, 8] (.ret)))), [.tmp 4]⟩
-- lp332_0 HEAD [1, 3, 16, 17] | exit 0: [3] | exit 1: [1, 3, 16, 17] | exit 2: [1, 3, 16, 17]
-- lp332_1 HEAD [1, 3, 4, 5, 6, 7, 16, 17, 40, 41, 42] | exit 2: [1, 3, 16, 17]
/-- (impl.board).moves -/
def lb332_1 : C := .kl [113] (.seq (.reg [⟨some 43, .bin .lss (.t 42) (.t 41), none⟩]) (.seq (.cond (.t 43) (.skip) (.kl [4, 5, 6, 7, 40, 41, 42, 43] (.exit 2))) (.kl [43] (.seq (.blk 3 (.seq (.reg [⟨some 44, .iaddr 2 (.t 40) (.t 42), none⟩, ⟨some 45, .load true 2 (.t 44), none⟩, ⟨some 10, .new [.int .i64 0, .int .i64 0], none⟩, ⟨none, .store 2 (.t 10) (.t 45), none⟩]) (.kl [44, 45] (.seq (.drw [⟨some 46, .iaddrA 2 1 (.t 10) (.c (.int .i64 0)), none⟩, ⟨some 47, .load false 1 (.t 46), none⟩, ⟨some 48, .iaddrA 2 1 (.t 10) (.c (.int .i64 1)), none⟩, ⟨some 49, .load false 1 (.t 48), none⟩, ⟨some 11, .mov (.t 47), none⟩, ⟨some 12, .mov (.t 49), none⟩] []) (.kl [10, 46, 47, 48, 49] (.blk 4 (.seq (.reg [⟨some 51, .load true 2 (.t 1), none⟩, ⟨some 52, .mov (.t 6), none⟩, ⟨some 53, .mov (.t 11), none⟩, ⟨some 54, .bin .add (.t 52) (.t 53), none⟩, ⟨some 55, .mov (.t 7), none⟩, ⟨some 56, .mov (.t 12), none⟩, ⟨some 57, .bin .add (.t 55) (.t 56), none⟩, ⟨some 58, .call 342 [.t 51, .t 54, .t 57], none⟩, ⟨some 59, .bin .eql (.t 58) (.c (.int .u8 46)), none⟩, ⟨some 50, .mov (.t 59), none⟩]) (.kl [51, 52, 53, 54, 55, 56, 57, 58, 59] (.cond (.t 50) (.kl [50] (.reg [⟨some 60, .mov (.t 3), none⟩, ⟨some 61, .mov (.t 4), none⟩, ⟨some 62, .mov (.t 4), none⟩, ⟨some 63, .mov (.t 11), none⟩, ⟨some 64, .bin .add (.t 62) (.t 63), none⟩, ⟨some 65, .mov (.t 12), none⟩, ⟨some 66, .faddr 1 1 (.t 1), none⟩, ⟨some 67, .load false 1 (.t 66), none⟩, ⟨some 68, .bin .mul (.t 65) (.t 67), none⟩, ⟨some 69, .bin .add (.t 64) (.t 68), none⟩, ⟨some 70, .build [.int .i64 0, .int .i64 0] [(0, 1, .t 61), (1, 1, .t 69)], none⟩, ⟨some 71, .lit 2 1 [.int .i64 0, .int .i64 0] [(0, 2, .t 70)], none⟩, ⟨some 72, .app 2 (.t 60) (.t 71), none⟩, ⟨some 3, .mov (.t 72), none⟩])) (.kl [50] (.seq (.reg [⟨some 74, .load true 2 (.t 1), none⟩, ⟨some 75, .mov (.t 6), none⟩, ⟨some 76, .mov (.t 11), none⟩, ⟨some 77, .bin .add (.t 75) (.t 76), none⟩, ⟨some 78, .mov (.t 7), none⟩, ⟨some 79, .mov (.t 12), none⟩, ⟨some 80, .bin .add (.t 78) (.t 79), none⟩, ⟨some 81, .call 342 [.t 74, .t 77, .t 80], none⟩, ⟨some 82, .mov (.t 5), none⟩, ⟨some 83, .call 109 [.t 82], none⟩, ⟨some 84, .bin .eql (.t 81) (.t 83), none⟩, ⟨some 85, .mov (.t 84), none⟩, ⟨some 86, .load true 2 (.t 1), some (85, true)⟩, ⟨some 87, .mov (.t 6), some (85, true)⟩, ⟨some 88, .mov (.t 11), some (85, true)⟩, ⟨some 89, .bin .mul (.c (.int .i64 2)) (.t 88), some (85, true)⟩, ⟨some 90, .bin .add (.t 87) (.t 89), some (85, true)⟩, ⟨some 91, .mov (.t 7), some (85, true)⟩, ⟨some 92, .mov (.t 12), some (85, true)⟩, ⟨some 93, .bin .mul (.c (.int .i64 2)) (.t 92), some (85, true)⟩, ⟨some 94, .bin .add (.t 91) (.t 93), some (85, true)⟩, ⟨some 95, .call 342 [.t 86, .t 90, .t 94], some (85, true)⟩, ⟨some 96, .bin .eql (.t 95) (.c (.int .u8 46)), some (85, true)⟩, ⟨some 97, .pick (.t 85) (.t 96) (.c (.bool false)), none⟩, ⟨some 73, .mov (.t 97), none⟩]) (.kl [74, 75, 76, 77, 78, 79, 80, 81, 82, 83, 84, 85, 86, 87, 88, 89, 90, 91, 92, 93, 94, 95, 96, 97] (.cond (.t 73) (.kl [73] (.reg [⟨some 98, .mov (.t 3), none⟩, ⟨some 99, .mov (.t 4), none⟩, ⟨some 100, .mov (.t 4), none⟩, ⟨some 101, .mov (.t 11), none⟩, ⟨some 102, .bin .mul (.c (.int .i64 2)) (.t 101), none⟩, ⟨some 103, .bin .add (.t 100) (.t 102), none⟩, ⟨some 104, .mov (.t 12), none⟩, ⟨some 105, .bin .mul (.c (.int .i64 2)) (.t 104), none⟩, ⟨some 106, .faddr 1 1 (.t 1), none⟩, ⟨some 107, .load false 1 (.t 106), none⟩, ⟨some 108, .bin .mul (.t 105) (.t 107), none⟩, ⟨some 109, .bin .add (.t 103) (.t 108), none⟩, ⟨some 110, .build [.int .i64 0, .int .i64 0] [(0, 1, .t 99), (1, 1, .t 109)], none⟩, ⟨some 111, .lit 2 1 [.int .i64 0, .int .i64 0] [(0, 2, .t 110)], none⟩, ⟨some 112, .app 2 (.t 98) (.t 111), none⟩, ⟨some 3, .mov (.t 112), none⟩])) (.skip)))))))))))))) (.kl [11, 12, 60, 61, 62, 63, 64, 65, 66, 67, 68, 69, 70, 71, 72, 73, 98, 99, 100, 101, 102, 103, 104, 105, 106, 107, 108, 109, 110, 111, 112] (.reg [⟨some 113, .bin .add (.t 42) (.c (.int .i64 1)), none⟩, ⟨some 42, .mov (.t 113), none⟩]))))))
def lp332_1 : C := lb332_1
def lb332_0 : C := .kl [114] (.seq (.reg [⟨some 18, .bin .lss (.t 17) (.t 16), none⟩]) (.seq (.cond (.t 18) (.skip) (.kl [1, 16, 17, 18] (.exit 0))) (.kl [18] (.seq (.blk 1 (.seq (.reg [⟨some 19, .mov (.t 17), none⟩, ⟨some 4, .mov (.t 19), none⟩]) (.kl [19] (.seq (.drw [⟨some 20, .faddr 0 1 (.t 1), none⟩, ⟨some 21, .load false 1 (.t 20), none⟩, ⟨some 22, .mov (.t 4), none⟩, ⟨some 23, .idxS (.t 21) (.t 22), none⟩, ⟨some 24, .mov (.t 4), none⟩, ⟨some 25, .faddr 1 1 (.t 1), none⟩, ⟨some 26, .load false 1 (.t 25), none⟩, ⟨some 27, .bin .rem (.t 24) (.t 26), none⟩, ⟨some 28, .mov (.t 4), none⟩, ⟨some 29, .faddr 1 1 (.t 1), none⟩, ⟨some 30, .load false 1 (.t 29), none⟩, ⟨some 31, .bin .quo (.t 28) (.t 30), none⟩, ⟨some 5, .mov (.t 23), none⟩, ⟨some 6, .mov (.t 27), none⟩, ⟨some 7, .mov (.t 31), none⟩] []) (.kl [20, 21, 22, 23, 24, 25, 26, 27, 28, 29, 30, 31] (.seq (.reg [⟨some 32, .mov (.t 5), none⟩, ⟨some 33, .call 103 [.t 32], none⟩, ⟨some 8, .mov (.t 33), none⟩]) (.kl [32, 33] (.seq (.seq (.reg [⟨some 34, .mov (.t 8), none⟩, ⟨some 35, .bin .eql (.t 34) (.c (.int .i64 0)), none⟩]) (.kl [34] (.cond (.t 35) (.kl [4, 5, 6, 7, 8, 35] (.exit 1)) (.skip)))) (.kl [35] (.seq (.reg [⟨some 36, .mov (.t 8), none⟩, ⟨some 37, .build [.int .i64 0, .int .i64 0] [(0, 1, .t 36), (1, 1, .c (.int .i64 0))], none⟩, ⟨some 38, .mov (.t 8), none⟩, ⟨some 39, .build [.int .i64 0, .int .i64 0] [(0, 1, .c (.int .i64 0)), (1, 1, .t 38)], none⟩, ⟨some 40, .lit 2 2 [.int .i64 0, .int .i64 0, .int .i64 0, .int .i64 0] [(0, 2, .t 37), (2, 2, .t 39)], none⟩, ⟨some 41, .lenV (.t 40), none⟩, ⟨some 42, .mov (.c (.int .i64 0)), none⟩]) (.kl [8, 36, 37, 38, 39] (.blk 2 (.loop lp332_1))))))))))))) (.reg [⟨some 114, .bin .add (.t 17) (.c (.int .i64 1)), none⟩, ⟨some 17, .mov (.t 114), none⟩])))))
def lp332_0 : C := lb332_0
def fi332 : FI := ⟨.seq (.reg [⟨some 1, .box (.t 0), none⟩, ⟨some 2, .mov (.c (.nilS)), none⟩]) (.kl [0, 2] (.seq (.reg [⟨some 13, .lit0, none⟩, ⟨some 3, .mov (.t 13), none⟩]) (.kl [13] (.seq (.seq (.reg [⟨some 14, .faddr 0 1 (.t 1), none⟩, ⟨some 15, .load false 1 (.t 14), none⟩, ⟨some 16, .lenS (.t 15), none⟩, ⟨some 17, .mov (.c (.int .i64 0)), none⟩]) (.kl [14, 15] (.blk 0 (.loop lp332_0)))) (.seq (.reg [⟨some 115, .mov (.t 3), none⟩, ⟨some 116, .call 343 [.t 115, .c (.fn 344 [])], none⟩]) (.kl [115, 116] (.seq (.reg [⟨some 117, .mov (.t 3), none⟩, ⟨some 2, .mov (.t 117), none⟩]) (.kl [3, 117] (.ret))))))))), [.tmp 2]⟩
/-- spec.boAt -/
def fi345 : FI := ⟨.seq (.reg [⟨some 6, .mov (.c (.int .u8 0)), none⟩]) (.kl [6] (.seq (.seq (.reg [⟨some 7, .mov (.t 2), none⟩, ⟨some 8, .mov (.t 0), none⟩, ⟨some 9, .lenV (.t 8), none⟩, ⟨some 10, .bin .sub (.t 9) (.c (.int .i64 1)), none⟩, ⟨some 11, .call 77 [.t 7, .c (.int .i64 0), .t 10], none⟩, ⟨some 12, .un .not (.t 11), none⟩, ⟨some 13, .mov (.t 12), none⟩, ⟨some 14, .mov (.t 1), some (13, false)⟩, ⟨some 15, .mov (.t 0), some (13, false)⟩, ⟨some 16, .iaddr 1 (.t 15) (.c (.int .i64 0)), some (13, false)⟩, ⟨some 17, .load false 1 (.t 16), some (13, false)⟩, ⟨some 18, .lenS (.t 17), some (13, false)⟩, ⟨some 19, .bin .sub (.t 18) (.c (.int .i64 1)), some (13, false)⟩, ⟨some 20, .call 77 [.t 14, .c (.int .i64 0), .t 19], some (13, false)⟩, ⟨some 21, .un .not (.t 20), some (13, false)⟩, ⟨some 22, .pick (.t 13) (.c (.bool true)) (.t 21), none⟩]) (.kl [7, 8, 9, 10, 11, 12, 13, 14, 15, 16, 17, 18, 19, 20, 21] (.cond (.t 22) (.kl [0, 1, 2, 22] (.seq (.reg [⟨some 6, .mov (.c (.int .u8 32)), none⟩]) (.ret))) (.skip)))) (.kl [22] (.seq (.reg [⟨some 23, .mov (.t 0), none⟩, ⟨some 24, .mov (.t 2), none⟩, ⟨some 25, .iaddr 1 (.t 23) (.t 24), none⟩, ⟨some 26, .load false 1 (.t 25), none⟩, ⟨some 27, .mov (.t 1), none⟩, ⟨some 28, .idxS (.t 26) (.t 27), none⟩, ⟨some 6, .mov (.t 28), none⟩]) (.kl [0, 1, 2, 23, 24, 25, 26, 27, 28] (.ret)))))), [.tmp 6]⟩
/-- spec.l1OwnS -/
def fi206 : FI := ⟨.seq (.reg [⟨some 2, .mov (.c (.nilS)), none⟩]) (.kl [2] (.seq (.reg [⟨some 3, .lit0, none⟩, ⟨some 4, .mov (.t 0), none⟩, ⟨some 5, .app 1 (.t 3) (.t 4), none⟩, ⟨some 2, .mov (.t 5), none⟩]) (.kl [0, 3, 4, 5] (.ret)))), [.tmp 2]⟩
/-- spec.liPut -/
def fi108 : FI := ⟨.seq (.reg [⟨some 6, .mov (.c (.str [])), none⟩]) (.kl [6] (.seq (.drw [⟨some 7, .mov (.t 0), none⟩, ⟨some 8, .mov (.t 1), none⟩, ⟨some 9, .subS (.t 7) none (some (.t 8)), none⟩, ⟨some 10, .mov (.t 2), none⟩, ⟨some 11, .bin .add (.t 9) (.t 10), none⟩, ⟨some 12, .mov (.t 0), none⟩, ⟨some 13, .mov (.t 1), none⟩, ⟨some 14, .bin .add (.t 13) (.c (.int .i64 1)), none⟩, ⟨some 15, .subS (.t 12) (some (.t 14)) none, none⟩, ⟨some 16, .bin .add (.t 11) (.t 15), none⟩, ⟨some 6, .mov (.t 16), none⟩] []) (.kl [0, 1, 2, 7, 8, 9, 10, 11, 12, 13, 14, 15, 16] (.ret)))), [.tmp 6]⟩
-- lp184_0 HEAD [0, 1, 7, 8] | exit 0: [] | ret: [4]
/-- slices.IndexFunc[[]string,string] -/
def lb184_0 : C := .kl [18] (.seq (.reg [⟨some 9, .bin .lss (.t 8) (.t 7), none⟩]) (.seq (.cond (.t 9) (.skip) (.kl [0, 1, 7, 8, 9] (.exit 0))) (.kl [9] (.seq (.blk 1 (.seq (.reg [⟨some 10, .mov (.t 8), none⟩, ⟨some 5, .mov (.t 10), none⟩]) (.kl [10] (.seq (.reg [⟨some 11, .mov (.t 1), none⟩, ⟨some 12, .mov (.t 0), none⟩, ⟨some 13, .mov (.t 5), none⟩, ⟨some 14, .iaddr 1 (.t 12) (.t 13), none⟩, ⟨some 15, .load false 1 (.t 14), none⟩, ⟨some 16, .callv (.t 11) [.t 15], none⟩]) (.kl [11, 12, 13, 14, 15] (.cond (.t 16) (.kl [0, 1, 7, 8, 16] (.seq (.reg [⟨some 17, .mov (.t 5), none⟩, ⟨some 4, .mov (.t 17), none⟩]) (.kl [5, 17] (.ret)))) (.skip))))))) (.kl [5, 16] (.reg [⟨some 18, .bin .add (.t 8) (.c (.int .i64 1)), none⟩, ⟨some 8, .mov (.t 18), none⟩]))))))
def lp184_0 : C := lb184_0
def fi184 : FI := ⟨.seq (.reg [⟨some 4, .mov (.c (.int .i64 0)), none⟩]) (.kl [4] (.seq (.seq (.reg [⟨some 6, .mov (.t 0), none⟩, ⟨some 7, .lenV (.t 6), none⟩, ⟨some 8, .mov (.c (.int .i64 0)), none⟩]) (.kl [6] (.blk 0 (.loop lp184_0)))) (.seq (.reg [⟨some 4, .mov (.c (.int .i64 (-1))), none⟩]) (.ret)))), [.tmp 4]⟩
/-- impl.within -/
def fi74 : FI := ⟨.seq (.reg [⟨some 6, .mov (.c (.bool false)), none⟩]) (.kl [6] (.seq (.reg [⟨some 7, .mov (.t 1), none⟩, ⟨some 8, .mov (.t 0), none⟩, ⟨some 9, .bin .leq (.t 7) (.t 8), none⟩, ⟨some 10, .mov (.t 9), none⟩, ⟨some 11, .mov (.t 0), some (10, true)⟩, ⟨some 12, .mov (.t 2), some (10, true)⟩, ⟨some 13, .bin .leq (.t 11) (.t 12), some (10, true)⟩, ⟨some 14, .pick (.t 10) (.t 13) (.c (.bool false)), none⟩, ⟨some 6, .mov (.t 14), none⟩]) (.kl [0, 1, 2, 7, 8, 9, 10, 11, 12, 13, 14] (.ret)))), [.tmp 6]⟩
/-- impl.made -/
def fi61 : FI := ⟨.seq (.reg [⟨some 3, .box (.t 1), none⟩, ⟨some 4, .mov (.c (.str [])), none⟩]) (.kl [1, 4] (.seq (.reg [⟨some 6, .mov (.t 0), none⟩, ⟨some 7, .toB (.t 6), none⟩, ⟨some 5, .mov (.t 7), none⟩]) (.kl [0, 6, 7] (.seq (.drw [⟨some 8, .mov (.t 5), none⟩, ⟨some 9, .faddr 1 1 (.t 3), none⟩, ⟨some 10, .load false 1 (.t 9), none⟩, ⟨some 11, .mov (.t 5), none⟩, ⟨some 12, .faddr 0 1 (.t 3), none⟩, ⟨some 13, .load false 1 (.t 12), none⟩, ⟨some 14, .mov (.t 5), none⟩, ⟨some 15, .faddr 0 1 (.t 3), none⟩, ⟨some 16, .load false 1 (.t 15), none⟩, ⟨some 17, .iaddr 1 (.t 14) (.t 16), none⟩, ⟨some 18, .load false 1 (.t 17), none⟩, ⟨some 19, .iaddr 1 (.t 8) (.t 10), none⟩, ⟨none, .store 1 (.t 19) (.t 18), none⟩, ⟨some 20, .iaddr 1 (.t 11) (.t 13), none⟩, ⟨none, .store 1 (.t 20) (.c (.int .u8 46)), none⟩] [(5, 12)]) (.kl [3, 8, 9, 10, 11, 12, 13, 14, 15, 16, 17, 18, 19, 20] (.seq (.reg [⟨some 21, .mov (.t 5), none⟩, ⟨some 22, .ofB (.t 21), none⟩, ⟨some 4, .mov (.t 22), none⟩]) (.kl [5, 21, 22] (.ret)))))))), [.tmp 4]⟩
-- lp133_0 HEAD [0, 3, 7, 8] | exit 0: [] | ret: [4]
/-- slices.Index[[]impl.Move,impl.Move] -/
def lb133_0 : C := .kl [18] (.seq (.reg [⟨some 9, .bin .lss (.t 8) (.t 7), none⟩]) (.seq (.cond (.t 9) (.skip) (.kl [0, 3, 7, 8, 9] (.exit 0))) (.kl [9] (.seq (.blk 1 (.seq (.reg [⟨some 10, .mov (.t 8), none⟩, ⟨some 5, .mov (.t 10), none⟩]) (.kl [10] (.seq (.drw [⟨some 11, .load true 2 (.t 3), none⟩, ⟨some 12, .mov (.t 0), none⟩, ⟨some 13, .mov (.t 5), none⟩, ⟨some 14, .iaddr 2 (.t 12) (.t 13), none⟩, ⟨some 15, .load true 2 (.t 14), none⟩, ⟨some 16, .aeq false [0, 0] (.t 11) (.t 15), none⟩] []) (.kl [11, 12, 13, 14, 15] (.cond (.t 16) (.kl [0, 3, 7, 8, 16] (.seq (.reg [⟨some 17, .mov (.t 5), none⟩, ⟨some 4, .mov (.t 17), none⟩]) (.kl [5, 17] (.ret)))) (.skip))))))) (.kl [5, 16] (.reg [⟨some 18, .bin .add (.t 8) (.c (.int .i64 1)), none⟩, ⟨some 8, .mov (.t 18), none⟩]))))))
def lp133_0 : C := lb133_0
def fi133 : FI := ⟨.seq (.reg [⟨some 3, .box (.t 1), none⟩, ⟨some 4, .mov (.c (.int .i64 0)), none⟩]) (.kl [1, 4] (.seq (.seq (.reg [⟨some 6, .mov (.t 0), none⟩, ⟨some 7, .lenV (.t 6), none⟩, ⟨some 8, .mov (.c (.int .i64 0)), none⟩]) (.kl [6] (.blk 0 (.loop lp133_0)))) (.seq (.reg [⟨some 4, .mov (.c (.int .i64 (-1))), none⟩]) (.ret)))), [.tmp 4]⟩
/-- impl.stepOf -/
def fi103 : FI := ⟨.seq (.reg [⟨some 2, .mov (.c (.int .i64 0)), none⟩]) (.kl [2] (.seq (.seq (.reg [⟨some 3, .mov (.t 0), none⟩]) (.kl [0] (.blk 0 (.seq (.reg [⟨some 5, .bin .eql (.t 3) (.c (.int .u8 84)), none⟩, ⟨some 4, .mov (.t 5), none⟩]) (.kl [5] (.cond (.t 4) (.kl [3, 4] (.seq (.reg [⟨some 2, .mov (.c (.int .i64 1)), none⟩]) (.ret))) (.kl [4] (.seq (.reg [⟨some 7, .bin .eql (.t 3) (.c (.int .u8 70)), none⟩, ⟨some 6, .mov (.t 7), none⟩]) (.kl [3, 7] (.cond (.t 6) (.kl [6] (.seq (.reg [⟨some 2, .mov (.c (.int .i64 (-1))), none⟩]) (.ret))) (.skip))))))))))) (.kl [6] (.seq (.reg [⟨some 2, .mov (.c (.int .i64 0)), none⟩]) (.ret))))), [.tmp 2]⟩
/-- (impl.board).sign -/
def fi342 : FI := ⟨.seq (.reg [⟨some 3, .box (.t 0), none⟩, ⟨some 6, .mov (.c (.int .u8 0)), none⟩]) (.kl [0, 6] (.seq (.seq (.reg [⟨some 7, .mov (.t 1), none⟩, ⟨some 8, .faddr 1 1 (.t 3), none⟩, ⟨some 9, .load false 1 (.t 8), none⟩, ⟨some 10, .bin .sub (.t 9) (.c (.int .i64 1)), none⟩, ⟨some 11, .call 74 [.t 7, .c (.int .i64 0), .t 10], none⟩, ⟨some 12, .un .not (.t 11), none⟩, ⟨some 13, .mov (.t 12), none⟩, ⟨some 14, .mov (.t 2), some (13, false)⟩, ⟨some 15, .load true 2 (.t 3), some (13, false)⟩, ⟨some 16, .call 348 [.t 15], some (13, false)⟩, ⟨some 17, .bin .sub (.t 16) (.c (.int .i64 1)), some (13, false)⟩, ⟨some 18, .call 74 [.t 14, .c (.int .i64 0), .t 17], some (13, false)⟩, ⟨some 19, .un .not (.t 18), some (13, false)⟩, ⟨some 20, .pick (.t 13) (.c (.bool true)) (.t 19), none⟩]) (.kl [7, 8, 9, 10, 11, 12, 13, 14, 15, 16, 17, 18, 19] (.cond (.t 20) (.kl [1, 2, 3, 20] (.seq (.reg [⟨some 6, .mov (.c (.int .u8 0)), none⟩]) (.ret))) (.skip)))) (.kl [20] (.seq (.reg [⟨some 21, .faddr 0 1 (.t 3), none⟩, ⟨some 22, .load false 1 (.t 21), none⟩, ⟨some 23, .mov (.t 2), none⟩, ⟨some 24, .faddr 1 1 (.t 3), none⟩, ⟨some 25, .load false 1 (.t 24), none⟩, ⟨some 26, .bin .mul (.t 23) (.t 25), none⟩, ⟨some 27, .mov (.t 1), none⟩, ⟨some 28, .bin .add (.t 26) (.t 27), none⟩, ⟨some 29, .idxS (.t 22) (.t 28), none⟩, ⟨some 6, .mov (.t 29), none⟩]) (.kl [1, 2, 3, 21, 22, 23, 24, 25, 26, 27, 28, 29] (.ret)))))), [.tmp 6]⟩
/-- impl.other -/
def fi109 : FI := ⟨.seq (.reg [⟨some 2, .mov (.c (.int .u8 0)), none⟩]) (.kl [2] (.seq (.seq (.reg [⟨some 3, .mov (.t 0), none⟩]) (.blk 0 (.seq (.reg [⟨some 5, .bin .eql (.t 3) (.c (.int .u8 84)), none⟩, ⟨some 4, .mov (.t 5), none⟩]) (.kl [5] (.cond (.t 4) (.kl [0, 3, 4] (.seq (.reg [⟨some 2, .mov (.c (.int .u8 70)), none⟩]) (.ret))) (.kl [4] (.seq (.reg [⟨some 7, .bin .eql (.t 3) (.c (.int .u8 70)), none⟩, ⟨some 6, .mov (.t 7), none⟩]) (.kl [3, 7] (.cond (.t 6) (.kl [0, 6] (.seq (.reg [⟨some 2, .mov (.c (.int .u8 84)), none⟩]) (.ret))) (.skip)))))))))) (.kl [6] (.seq (.reg [⟨some 8, .mov (.t 0), none⟩, ⟨some 2, .mov (.t 8), none⟩]) (.kl [0, 8] (.ret)))))), [.tmp 2]⟩
/-- (impl.board).moves$1 -/
def fi344 : FI := ⟨.seq (.reg [⟨some 2, .box (.t 0), none⟩, ⟨some 3, .box (.t 1), none⟩, ⟨some 4, .mov (.c (.int .i64 0)), none⟩]) (.kl [0, 1, 4] (.seq (.drw [⟨some 5, .faddr 0 1 (.t 2), none⟩, ⟨some 6, .load false 1 (.t 5), none⟩, ⟨some 7, .faddr 0 1 (.t 3), none⟩, ⟨some 8, .load false 1 (.t 7), none⟩, ⟨some 9, .call 306 [.t 6, .t 8], none⟩, ⟨some 10, .faddr 1 1 (.t 2), none⟩, ⟨some 11, .load false 1 (.t 10), none⟩, ⟨some 12, .faddr 1 1 (.t 3), none⟩, ⟨some 13, .load false 1 (.t 12), none⟩, ⟨some 14, .call 306 [.t 11, .t 13], none⟩, ⟨some 15, .lit 1 2 [.int .i64 0, .int .i64 0] [(0, 1, .t 9), (1, 1, .t 14)], none⟩, ⟨some 16, .call 350 [.t 15], none⟩, ⟨some 4, .mov (.t 16), none⟩] [(6, 4), (8, 4)]) (.kl [2, 3, 5, 6, 7, 8, 9, 10, 11, 12, 13, 14, 15, 16] (.ret)))), [.tmp 4]⟩
-- lp350_0 HEAD [3, 6, 7, 8] | exit 0: [3] | ret: [2]
/-- cmp.Or[int] -/
def lb350_0 : C := .kl [16] (.seq (.reg [⟨some 9, .bin .lss (.t 8) (.t 7), none⟩]) (.seq (.cond (.t 9) (.skip) (.kl [6, 7, 8, 9] (.exit 0))) (.kl [9] (.seq (.blk 1 (.seq (.reg [⟨some 10, .iaddr 1 (.t 6) (.t 8), none⟩, ⟨some 11, .load false 1 (.t 10), none⟩, ⟨some 5, .mov (.t 11), none⟩]) (.kl [10, 11] (.seq (.reg [⟨some 12, .mov (.t 5), none⟩, ⟨some 13, .mov (.t 3), none⟩, ⟨some 14, .bin .neq (.t 12) (.t 13), none⟩]) (.kl [12, 13] (.cond (.t 14) (.kl [3, 6, 7, 8, 14] (.seq (.reg [⟨some 15, .mov (.t 5), none⟩, ⟨some 2, .mov (.t 15), none⟩]) (.kl [5, 15] (.ret)))) (.skip))))))) (.kl [5, 14] (.reg [⟨some 16, .bin .add (.t 8) (.c (.int .i64 1)), none⟩, ⟨some 8, .mov (.t 16), none⟩]))))))
def lp350_0 : C := lb350_0
def fi350 : FI := ⟨.seq (.reg [⟨some 2, .mov (.c (.int .i64 0)), none⟩]) (.kl [2] (.seq (.reg [⟨some 3, .mov (.c (.int .i64 0)), none⟩]) (.seq (.seq (.reg [⟨some 6, .mov (.t 0), none⟩, ⟨some 7, .lenV (.t 6), none⟩, ⟨some 8, .mov (.c (.int .i64 0)), none⟩]) (.kl [0] (.blk 0 (.loop lp350_0)))) (.seq (.reg [⟨some 17, .mov (.t 3), none⟩, ⟨some 2, .mov (.t 17), none⟩]) (.kl [3, 17] (.ret)))))), [.tmp 2]⟩
/-- cmp.Compare[int] -/
def fi306 : FI := ⟨.seq (.reg [⟨some 4, .mov (.c (.int .i64 0)), none⟩]) (.kl [4] (.seq (.reg [⟨some 7, .mov (.t 0), none⟩, ⟨some 8, .call 307 [.t 7], none⟩, ⟨some 5, .mov (.t 8), none⟩]) (.kl [7, 8] (.seq (.reg [⟨some 9, .mov (.t 1), none⟩, ⟨some 10, .call 307 [.t 9], none⟩, ⟨some 6, .mov (.t 10), none⟩]) (.kl [9, 10] (.seq (.seq (.reg [⟨some 11, .mov (.t 5), none⟩]) (.kl [5] (.cond (.t 11) (.kl [0, 1, 11] (.seq (.seq (.reg [⟨some 12, .mov (.t 6), none⟩]) (.kl [6] (.cond (.t 12) (.kl [12] (.seq (.reg [⟨some 4, .mov (.c (.int .i64 0)), none⟩]) (.ret))) (.skip)))) (.kl [12] (.seq (.reg [⟨some 4, .mov (.c (.int .i64 (-1))), none⟩]) (.ret))))) (.skip)))) (.kl [11] (.seq (.seq (.reg [⟨some 13, .mov (.t 6), none⟩]) (.kl [6] (.cond (.t 13) (.kl [0, 1, 13] (.seq (.reg [⟨some 4, .mov (.c (.int .i64 1)), none⟩]) (.ret))) (.skip)))) (.kl [13] (.seq (.seq (.reg [⟨some 14, .mov (.t 0), none⟩, ⟨some 15, .mov (.t 1), none⟩, ⟨some 16, .bin .lss (.t 14) (.t 15), none⟩]) (.kl [14, 15] (.cond (.t 16) (.kl [0, 1, 16] (.seq (.reg [⟨some 4, .mov (.c (.int .i64 (-1))), none⟩]) (.ret))) (.skip)))) (.kl [16] (.seq (.seq (.reg [⟨some 17, .mov (.t 0), none⟩, ⟨some 18, .mov (.t 1), none⟩, ⟨some 19, .bin .gtr (.t 17) (.t 18), none⟩]) (.kl [0, 1, 17, 18] (.cond (.t 19) (.kl [19] (.seq (.reg [⟨some 4, .mov (.c (.int .i64 1)), none⟩]) (.ret))) (.skip)))) (.kl [19] (.seq (.reg [⟨some 4, .mov (.c (.int .i64 0)), none⟩]) (.ret))))))))))))))), [.tmp 4]⟩
/-- (impl.board).high -/
def fi348 : FI := ⟨.seq (.reg [⟨some 1, .box (.t 0), none⟩, ⟨some 2, .mov (.c (.int .i64 0)), none⟩]) (.kl [0, 2] (.seq (.reg [⟨some 3, .faddr 0 1 (.t 1), none⟩, ⟨some 4, .load false 1 (.t 3), none⟩, ⟨some 5, .lenS (.t 4), none⟩, ⟨some 6, .faddr 1 1 (.t 1), none⟩, ⟨some 7, .load false 1 (.t 6), none⟩, ⟨some 8, .bin .quo (.t 5) (.t 7), none⟩, ⟨some 2, .mov (.t 8), none⟩]) (.kl [1, 3, 4, 5, 6, 7, 8] (.ret)))), [.tmp 2]⟩
-- lp349_0 HEAD [0, 1, 2, 3, 4, 10, 11] | exit 1: [0, 1, 2, 3, 4, 10, 11] | ret: []
/-- slices.pdqsortCmpFunc[impl.Move] -/
def lb349_0 : C := .kl [16, 135, 136, 147] (.blk 1 (.seq (.reg [⟨some 21, .mov (.t 2), none⟩, ⟨some 22, .mov (.t 1), none⟩, ⟨some 23, .bin .sub (.t 21) (.t 22), none⟩, ⟨some 12, .mov (.t 23), none⟩]) (.kl [21, 22, 23] (.seq (.seq (.reg [⟨some 24, .mov (.t 12), none⟩, ⟨some 25, .bin .leq (.t 24) (.c (.int .i64 12)), none⟩]) (.kl [24] (.cond (.t 25) (.kl [3, 10, 11, 12, 25] (.seq (.reg [⟨some 26, .mov (.t 0), none⟩, ⟨some 27, .mov (.t 1), none⟩, ⟨some 28, .mov (.t 2), none⟩, ⟨some 29, .mov (.t 4), none⟩, ⟨some 30, .call 352 [.t 26, .t 27, .t 28, .t 29], none⟩]) (.kl [0, 1, 2, 4, 26, 27, 28, 29, 30] (.ret)))) (.skip)))) (.kl [25] (.seq (.seq (.reg [⟨some 31, .mov (.t 3), none⟩, ⟨some 32, .bin .eql (.t 31) (.c (.int .i64 0)), none⟩]) (.kl [31] (.cond (.t 32) (.kl [3, 10, 11, 12, 32] (.seq (.reg [⟨some 33, .mov (.t 0), none⟩, ⟨some 34, .mov (.t 1), none⟩, ⟨some 35, .mov (.t 2), none⟩, ⟨some 36, .mov (.t 4), none⟩, ⟨some 37, .call 353 [.t 33, .t 34, .t 35, .t 36], none⟩]) (.kl [0, 1, 2, 4, 33, 34, 35, 36, 37] (.ret)))) (.skip)))) (.kl [32] (.seq (.seq (.reg [⟨some 38, .mov (.t 10), none⟩, ⟨some 39, .un .not (.t 38), none⟩]) (.kl [38] (.cond (.t 39) (.kl [39] (.seq (.reg [⟨some 40, .mov (.t 0), none⟩, ⟨some 41, .mov (.t 1), none⟩, ⟨some 42, .mov (.t 2), none⟩, ⟨some 43, .mov (.t 4), none⟩, ⟨some 44, .call 354 [.t 40, .t 41, .t 42, .t 43], none⟩]) (.kl [40, 41, 42, 43, 44] (.reg [⟨some 45, .mov (.t 3), none⟩, ⟨some 46, .bin .sub (.t 45) (.c (.int .i64 1)), none⟩, ⟨some 3, .mov (.t 46), none⟩])))) (.skip)))) (.kl [39, 45, 46] (.seq (.reg [⟨some 48, .mov (.t 0), none⟩, ⟨some 49, .mov (.t 1), none⟩, ⟨some 50, .mov (.t 2), none⟩, ⟨some 51, .mov (.t 4), none⟩, ⟨some 52, .call 355 [.t 48, .t 49, .t 50, .t 51], none⟩, ⟨some 47, .mov (.t 52), none⟩, ⟨some 53, .prj 0 (.t 47), none⟩, ⟨some 54, .prj 1 (.t 47), none⟩, ⟨some 13, .mov (.t 53), none⟩, ⟨some 14, .mov (.t 54), none⟩]) (.kl [47, 48, 49, 50, 51, 52, 53, 54] (.seq (.seq (.reg [⟨some 55, .mov (.t 14), none⟩, ⟨some 56, .bin .eql (.t 55) (.c (.int .i64 2)), none⟩]) (.kl [55] (.cond (.t 56) (.kl [14, 56] (.seq (.reg [⟨some 57, .mov (.t 0), none⟩, ⟨some 58, .mov (.t 1), none⟩, ⟨some 59, .mov (.t 2), none⟩, ⟨some 60, .mov (.t 4), none⟩, ⟨some 61, .call 356 [.t 57, .t 58, .t 59, .t 60], none⟩]) (.kl [57, 58, 59, 60, 61] (.seq (.reg [⟨some 62, .mov (.t 2), none⟩, ⟨some 63, .bin .sub (.t 62) (.c (.int .i64 1)), none⟩, ⟨some 64, .mov (.t 13), none⟩, ⟨some 65, .mov (.t 1), none⟩, ⟨some 66, .bin .sub (.t 64) (.t 65), none⟩, ⟨some 67, .bin .sub (.t 63) (.t 66), none⟩, ⟨some 13, .mov (.t 67), none⟩]) (.kl [62, 63, 64, 65, 66, 67] (.reg [⟨some 14, .mov (.c (.int .i64 1)), none⟩])))))) (.skip)))) (.kl [56] (.seq (.seq (.reg [⟨some 68, .mov (.t 10), none⟩, ⟨some 69, .mov (.t 68), none⟩, ⟨some 70, .mov (.t 11), some (69, true)⟩, ⟨some 71, .pick (.t 69) (.t 70) (.c (.bool false)), none⟩, ⟨some 72, .mov (.t 71), none⟩, ⟨some 73, .mov (.t 14), some (72, true)⟩, ⟨some 74, .bin .eql (.t 73) (.c (.int .i64 1)), some (72, true)⟩, ⟨some 75, .pick (.t 72) (.t 74) (.c (.bool false)), none⟩]) (.kl [14, 68, 69, 70, 71, 72, 73, 74] (.cond (.t 75) (.kl [75] (.seq (.reg [⟨some 76, .mov (.t 0), none⟩, ⟨some 77, .mov (.t 1), none⟩, ⟨some 78, .mov (.t 2), none⟩, ⟨some 79, .mov (.t 4), none⟩, ⟨some 80, .call 357 [.t 76, .t 77, .t 78, .t 79], none⟩]) (.kl [76, 77, 78, 79] (.cond (.t 80) (.kl [0, 1, 2, 3, 4, 10, 11, 12, 13, 80] (.ret)) (.skip))))) (.skip)))) (.kl [75, 80] (.seq (.seq (.drw [⟨some 81, .mov (.t 1), none⟩, ⟨some 82, .bin .gtr (.t 81) (.c (.int .i64 0)), none⟩, ⟨some 83, .mov (.t 82), none⟩, ⟨some 84, .mov (.t 4), some (83, true)⟩, ⟨some 85, .mov (.t 0), some (83, true)⟩, ⟨some 86, .mov (.t 1), some (83, true)⟩, ⟨some 87, .bin .sub (.t 86) (.c (.int .i64 1)), some (83, true)⟩, ⟨some 88, .iaddr 2 (.t 85) (.t 87), some (83, true)⟩, ⟨some 89, .load true 2 (.t 88), some (83, true)⟩, ⟨some 90, .mov (.t 0), some (83, true)⟩, ⟨some 91, .mov (.t 13), some (83, true)⟩, ⟨some 92, .iaddr 2 (.t 90) (.t 91), some (83, true)⟩, ⟨some 93, .load true 2 (.t 92), some (83, true)⟩, ⟨some 94, .callv (.t 84) [.t 89, .t 93], some (83, true)⟩, ⟨some 95, .bin .lss (.t 94) (.c (.int .i64 0)), some (83, true)⟩, ⟨some 96, .un .not (.t 95), some (83, true)⟩, ⟨some 97, .pick (.t 83) (.t 96) (.c (.bool false)), none⟩] []) (.kl [81, 82, 83, 84, 85, 86, 87, 88, 89, 90, 91, 92, 93, 94, 95, 96] (.cond (.t 97) (.kl [12, 97] (.seq (.reg [⟨some 98, .mov (.t 0), none⟩, ⟨some 99, .mov (.t 1), none⟩, ⟨some 100, .mov (.t 2), none⟩, ⟨some 101, .mov (.t 13), none⟩, ⟨some 102, .mov (.t 4), none⟩, ⟨some 103, .call 358 [.t 98, .t 99, .t 100, .t 101, .t 102], none⟩, ⟨some 15, .mov (.t 103), none⟩]) (.kl [1, 13, 98, 99, 100, 101, 102, 103] (.seq (.reg [⟨some 104, .mov (.t 15), none⟩, ⟨some 1, .mov (.t 104), none⟩]) (.kl [15, 104] (.exit 1)))))) (.skip)))) (.kl [10, 11, 97] (.seq (.reg [⟨some 106, .mov (.t 0), none⟩, ⟨some 107, .mov (.t 1), none⟩, ⟨some 108, .mov (.t 2), none⟩, ⟨some 109, .mov (.t 13), none⟩, ⟨some 110, .mov (.t 4), none⟩, ⟨some 111, .call 359 [.t 106, .t 107, .t 108, .t 109, .t 110], none⟩, ⟨some 105, .mov (.t 111), none⟩, ⟨some 112, .prj 0 (.t 105), none⟩, ⟨some 113, .prj 1 (.t 105), none⟩, ⟨some 16, .mov (.t 112), none⟩, ⟨some 17, .mov (.t 113), none⟩]) (.kl [13, 105, 106, 107, 108, 109, 110, 111, 112, 113] (.seq (.reg [⟨some 114, .mov (.t 17), none⟩, ⟨some 11, .mov (.t 114), none⟩]) (.kl [17, 114] (.seq (.reg [⟨some 115, .mov (.t 16), none⟩, ⟨some 116, .mov (.t 1), none⟩, ⟨some 117, .bin .sub (.t 115) (.t 116), none⟩, ⟨some 118, .mov (.t 2), none⟩, ⟨some 119, .mov (.t 16), none⟩, ⟨some 120, .bin .sub (.t 118) (.t 119), none⟩, ⟨some 18, .mov (.t 117), none⟩, ⟨some 19, .mov (.t 120), none⟩]) (.kl [115, 116, 117, 118, 119, 120] (.seq (.reg [⟨some 121, .mov (.t 12), none⟩, ⟨some 122, .bin .quo (.t 121) (.c (.int .i64 8)), none⟩, ⟨some 20, .mov (.t 122), none⟩]) (.kl [12, 121, 122] (.seq (.reg [⟨some 123, .mov (.t 18), none⟩, ⟨some 124, .mov (.t 19), none⟩, ⟨some 125, .bin .lss (.t 123) (.t 124), none⟩]) (.kl [123, 124] (.cond (.t 125) (.kl [19, 125] (.seq (.reg [⟨some 126, .mov (.t 18), none⟩, ⟨some 127, .mov (.t 20), none⟩, ⟨some 128, .bin .geq (.t 126) (.t 127), none⟩, ⟨some 10, .mov (.t 128), none⟩]) (.kl [18, 20, 126, 127, 128] (.seq (.reg [⟨some 129, .mov (.t 0), none⟩, ⟨some 130, .mov (.t 1), none⟩, ⟨some 131, .mov (.t 16), none⟩, ⟨some 132, .mov (.t 3), none⟩, ⟨some 133, .mov (.t 4), none⟩, ⟨some 134, .call 349 [.t 129, .t 130, .t 131, .t 132, .t 133], none⟩]) (.kl [1, 129, 130, 131, 132, 133, 134] (.reg [⟨some 135, .mov (.t 16), none⟩, ⟨some 136, .bin .add (.t 135) (.c (.int .i64 1)), none⟩, ⟨some 1, .mov (.t 136), none⟩])))))) (.kl [18, 125] (.seq (.reg [⟨some 137, .mov (.t 19), none⟩, ⟨some 138, .mov (.t 20), none⟩, ⟨some 139, .bin .geq (.t 137) (.t 138), none⟩, ⟨some 10, .mov (.t 139), none⟩]) (.kl [19, 20, 137, 138, 139] (.seq (.reg [⟨some 140, .mov (.t 0), none⟩, ⟨some 141, .mov (.t 16), none⟩, ⟨some 142, .bin .add (.t 141) (.c (.int .i64 1)), none⟩, ⟨some 143, .mov (.t 2), none⟩, ⟨some 144, .mov (.t 3), none⟩, ⟨some 145, .mov (.t 4), none⟩, ⟨some 146, .call 349 [.t 140, .t 142, .t 143, .t 144, .t 145], none⟩]) (.kl [2, 140, 141, 142, 143, 144, 145, 146] (.reg [⟨some 147, .mov (.t 16), none⟩, ⟨some 2, .mov (.t 147), none⟩]))))))))))))))))))))))))))))))))))
def lp349_0 : C := lb349_0
def fi349 : FI := ⟨.seq (.reg [⟨some 10, .mov (.c (.bool true)), none⟩]) (.seq (.reg [⟨some 11, .mov (.c (.bool true)), none⟩]) (.blk 0 (.loop lp349_0))), []⟩
/-- cmp.isNaN[int] -/
def fi307 : FI := ⟨.seq (.reg [⟨some 2, .mov (.c (.bool false)), none⟩]) (.kl [2] (.seq (.reg [⟨some 3, .mov (.t 0), none⟩, ⟨some 4, .mov (.t 0), none⟩, ⟨some 5, .bin .neq (.t 3) (.t 4), none⟩, ⟨some 2, .mov (.t 5), none⟩]) (.kl [0, 3, 4, 5] (.ret)))), [.tmp 2]⟩
-- lp352_0 HEAD [0, 1, 2, 3, 8] | exit 0: [] | exit 2: [0, 1, 2, 3, 8]
-- lp352_1 HEAD [0, 1, 2, 3, 8, 9] | exit 2: [0, 1, 2, 3, 8]
/-- slices.insertionSortCmpFunc[impl.Move] -/
def lb352_1 : C := .kl [35, 36] (.seq (.seq (.drw [⟨some 18, .mov (.t 9), none⟩, ⟨some 19, .mov (.t 1), none⟩, ⟨some 20, .bin .gtr (.t 18) (.t 19), none⟩, ⟨some 21, .mov (.t 20), none⟩, ⟨some 22, .mov (.t 3), some (21, true)⟩, ⟨some 23, .mov (.t 0), some (21, true)⟩, ⟨some 24, .mov (.t 9), some (21, true)⟩, ⟨some 25, .iaddr 2 (.t 23) (.t 24), some (21, true)⟩, ⟨some 26, .load true 2 (.t 25), some (21, true)⟩, ⟨some 27, .mov (.t 0), some (21, true)⟩, ⟨some 28, .mov (.t 9), some (21, true)⟩, ⟨some 29, .bin .sub (.t 28) (.c (.int .i64 1)), some (21, true)⟩, ⟨some 30, .iaddr 2 (.t 27) (.t 29), some (21, true)⟩, ⟨some 31, .load true 2 (.t 30), some (21, true)⟩, ⟨some 32, .callv (.t 22) [.t 26, .t 31], some (21, true)⟩, ⟨some 33, .bin .lss (.t 32) (.c (.int .i64 0)), some (21, true)⟩, ⟨some 34, .pick (.t 21) (.t 33) (.c (.bool false)), none⟩] []) (.kl [18, 19, 20, 21, 22, 23, 24, 25, 26, 27, 28, 29, 30, 31, 32, 33] (.cond (.t 34) (.skip) (.kl [9, 34] (.exit 2))))) (.kl [34] (.seq (.blk 3 (.drw [⟨some 37, .mov (.t 0), none⟩, ⟨some 38, .mov (.t 9), none⟩, ⟨some 39, .mov (.t 0), none⟩, ⟨some 40, .mov (.t 9), none⟩, ⟨some 41, .bin .sub (.t 40) (.c (.int .i64 1)), none⟩, ⟨some 42, .mov (.t 0), none⟩, ⟨some 43, .mov (.t 9), none⟩, ⟨some 44, .bin .sub (.t 43) (.c (.int .i64 1)), none⟩, ⟨some 45, .iaddr 2 (.t 42) (.t 44), none⟩, ⟨some 46, .load true 2 (.t 45), none⟩, ⟨some 47, .mov (.t 0), none⟩, ⟨some 48, .mov (.t 9), none⟩, ⟨some 49, .iaddr 2 (.t 47) (.t 48), none⟩, ⟨some 50, .load true 2 (.t 49), none⟩, ⟨some 51, .iaddr 2 (.t 37) (.t 38), none⟩, ⟨none, .store 2 (.t 51) (.t 46), none⟩, ⟨some 52, .iaddr 2 (.t 39) (.t 41), none⟩, ⟨none, .store 2 (.t 52) (.t 50), none⟩] [])) (.kl [37, 38, 39, 40, 41, 42, 43, 44, 45, 46, 47, 48, 49, 50, 51, 52] (.reg [⟨some 35, .mov (.t 9), none⟩, ⟨some 36, .bin .sub (.t 35) (.c (.int .i64 1)), none⟩, ⟨some 9, .mov (.t 36), none⟩])))))
def lp352_1 : C := lb352_1
def lb352_0 : C := .kl [15, 16] (.seq (.seq (.reg [⟨some 12, .mov (.t 8), none⟩, ⟨some 13, .mov (.t 2), none⟩, ⟨some 14, .bin .lss (.t 12) (.t 13), none⟩]) (.kl [12, 13] (.cond (.t 14) (.skip) (.kl [0, 1, 2, 3, 8, 14] (.exit 0))))) (.kl [14] (.seq (.blk 1 (.seq (.reg [⟨some 17, .mov (.t 8), none⟩, ⟨some 9, .mov (.t 17), none⟩]) (.kl [17] (.blk 2 (.loop lp352_1))))) (.reg [⟨some 15, .mov (.t 8), none⟩, ⟨some 16, .bin .add (.t 15) (.c (.int .i64 1)), none⟩, ⟨some 8, .mov (.t 16), none⟩]))))
def lp352_0 : C := lb352_0
def fi352 : FI := ⟨.seq (.reg [⟨some 10, .mov (.t 1), none⟩, ⟨some 11, .bin .add (.t 10) (.c (.int .i64 1)), none⟩, ⟨some 8, .mov (.t 11), none⟩]) (.kl [10, 11] (.blk 0 (.loop lp352_0))), []⟩
-- lp353_0 HEAD [0, 3, 8, 9, 10, 11] | exit 0: [0, 3, 8, 9, 10]
-- lp353_1 HEAD [0, 3, 8, 9, 12] | exit 2: []
/-- slices.heapSortCmpFunc[impl.Move] -/
def lb353_1 : C := .kl [34, 35] (.seq (.seq (.reg [⟨some 32, .mov (.t 12), none⟩, ⟨some 33, .bin .geq (.t 32) (.c (.int .i64 0)), none⟩]) (.kl [32] (.cond (.t 33) (.skip) (.kl [0, 3, 8, 9, 12, 33] (.exit 2))))) (.kl [33] (.seq (.blk 3 (.seq (.drw [⟨some 36, .mov (.t 0), none⟩, ⟨some 37, .mov (.t 8), none⟩, ⟨some 38, .mov (.t 0), none⟩, ⟨some 39, .mov (.t 8), none⟩, ⟨some 40, .mov (.t 12), none⟩, ⟨some 41, .bin .add (.t 39) (.t 40), none⟩, ⟨some 42, .mov (.t 0), none⟩, ⟨some 43, .mov (.t 8), none⟩, ⟨some 44, .mov (.t 12), none⟩, ⟨some 45, .bin .add (.t 43) (.t 44), none⟩, ⟨some 46, .iaddr 2 (.t 42) (.t 45), none⟩, ⟨some 47, .load true 2 (.t 46), none⟩, ⟨some 48, .mov (.t 0), none⟩, ⟨some 49, .mov (.t 8), none⟩, ⟨some 50, .iaddr 2 (.t 48) (.t 49), none⟩, ⟨some 51, .load true 2 (.t 50), none⟩, ⟨some 52, .iaddr 2 (.t 36) (.t 37), none⟩, ⟨none, .store 2 (.t 52) (.t 47), none⟩, ⟨some 53, .iaddr 2 (.t 38) (.t 41), none⟩, ⟨none, .store 2 (.t 53) (.t 51), none⟩] []) (.kl [36, 37, 38, 39, 40, 41, 42, 43, 44, 45, 46, 47, 48, 49, 50, 51, 52, 53] (.reg [⟨some 54, .mov (.t 0), none⟩, ⟨some 55, .mov (.t 9), none⟩, ⟨some 56, .mov (.t 12), none⟩, ⟨some 57, .mov (.t 8), none⟩, ⟨some 58, .mov (.t 3), none⟩, ⟨some 59, .call 360 [.t 54, .t 55, .t 56, .t 57, .t 58], none⟩])))) (.kl [54, 55, 56, 57, 58, 59] (.reg [⟨some 34, .mov (.t 12), none⟩, ⟨some 35, .bin .sub (.t 34) (.c (.int .i64 1)), none⟩, ⟨some 12, .mov (.t 35), none⟩])))))
def lp353_1 : C := lb353_1
def lb353_0 : C := .kl [22, 23] (.seq (.seq (.reg [⟨some 20, .mov (.t 11), none⟩, ⟨some 21, .bin .geq (.t 20) (.c (.int .i64 0)), none⟩]) (.kl [20] (.cond (.t 21) (.skip) (.kl [11, 21] (.exit 0))))) (.kl [21] (.seq (.blk 1 (.reg [⟨some 24, .mov (.t 0), none⟩, ⟨some 25, .mov (.t 11), none⟩, ⟨some 26, .mov (.t 10), none⟩, ⟨some 27, .mov (.t 8), none⟩, ⟨some 28, .mov (.t 3), none⟩, ⟨some 29, .call 360 [.t 24, .t 25, .t 26, .t 27, .t 28], none⟩])) (.kl [24, 25, 26, 27, 28, 29] (.reg [⟨some 22, .mov (.t 11), none⟩, ⟨some 23, .bin .sub (.t 22) (.c (.int .i64 1)), none⟩, ⟨some 11, .mov (.t 23), none⟩])))))
def lp353_0 : C := lb353_0
def fi353 : FI := ⟨.seq (.reg [⟨some 13, .mov (.t 1), none⟩, ⟨some 8, .mov (.t 13), none⟩]) (.kl [13] (.seq (.reg [⟨some 9, .mov (.c (.int .i64 0)), none⟩]) (.seq (.reg [⟨some 14, .mov (.t 2), none⟩, ⟨some 15, .mov (.t 1), none⟩, ⟨some 16, .bin .sub (.t 14) (.t 15), none⟩, ⟨some 10, .mov (.t 16), none⟩]) (.kl [1, 2, 14, 15, 16] (.seq (.seq (.reg [⟨some 17, .mov (.t 10), none⟩, ⟨some 18, .bin .sub (.t 17) (.c (.int .i64 1)), none⟩, ⟨some 19, .bin .quo (.t 18) (.c (.int .i64 2)), none⟩, ⟨some 11, .mov (.t 19), none⟩]) (.kl [17, 18, 19] (.blk 0 (.loop lp353_0)))) (.seq (.reg [⟨some 30, .mov (.t 10), none⟩, ⟨some 31, .bin .sub (.t 30) (.c (.int .i64 1)), none⟩, ⟨some 12, .mov (.t 31), none⟩]) (.kl [10, 30, 31] (.blk 2 (.loop lp353_1))))))))), []⟩
-- lp354_0 HEAD [0, 1, 8, 9, 10, 11] | exit 0: []
/-- slices.breakPatternsCmpFunc[impl.Move] -/
def lb354_0 : C := .kl [36, 37] (.seq (.seq (.reg [⟨some 28, .mov (.t 11), none⟩, ⟨some 29, .mov (.t 1), none⟩, ⟨some 30, .mov (.t 8), none⟩, ⟨some 31, .bin .quo (.t 30) (.c (.int .i64 4)), none⟩, ⟨some 32, .bin .mul (.t 31) (.c (.int .i64 2)), none⟩, ⟨some 33, .bin .add (.t 29) (.t 32), none⟩, ⟨some 34, .bin .add (.t 33) (.c (.int .i64 1)), none⟩, ⟨some 35, .bin .leq (.t 28) (.t 34), none⟩]) (.kl [28, 29, 30, 31, 32, 33, 34] (.cond (.t 35) (.skip) (.kl [0, 1, 8, 9, 10, 11, 35] (.exit 0))))) (.kl [35] (.seq (.blk 1 (.seq (.reg [⟨some 38, .call 289 [.t 9], none⟩, ⟨some 39, .mov (.t 10), none⟩, ⟨some 40, .bin .sub (.t 39) (.c (.int .u64 1)), none⟩, ⟨some 41, .bin .and (.t 38) (.t 40), none⟩, ⟨some 42, .conv .i64 (.t 41), none⟩, ⟨some 12, .mov (.t 42), none⟩]) (.kl [38, 39, 40, 41, 42] (.seq (.seq (.reg [⟨some 43, .mov (.t 12), none⟩, ⟨some 44, .mov (.t 8), none⟩, ⟨some 45, .bin .geq (.t 43) (.t 44), none⟩]) (.kl [43, 44] (.cond (.t 45) (.kl [45] (.reg [⟨some 46, .mov (.t 12), none⟩, ⟨some 47, .mov (.t 8), none⟩, ⟨some 48, .bin .sub (.t 46) (.t 47), none⟩, ⟨some 12, .mov (.t 48), none⟩])) (.skip)))) (.kl [45, 46, 47, 48] (.drw [⟨some 49, .mov (.t 0), none⟩, ⟨some 50, .mov (.t 11), none⟩, ⟨some 51, .mov (.t 0), none⟩, ⟨some 52, .mov (.t 1), none⟩, ⟨some 53, .mov (.t 12), none⟩, ⟨some 54, .bin .add (.t 52) (.t 53), none⟩, ⟨some 55, .mov (.t 0), none⟩, ⟨some 56, .mov (.t 1), none⟩, ⟨some 57, .mov (.t 12), none⟩, ⟨some 58, .bin .add (.t 56) (.t 57), none⟩, ⟨some 59, .iaddr 2 (.t 55) (.t 58), none⟩, ⟨some 60, .load true 2 (.t 59), none⟩, ⟨some 61, .mov (.t 0), none⟩, ⟨some 62, .mov (.t 11), none⟩, ⟨some 63, .iaddr 2 (.t 61) (.t 62), none⟩, ⟨some 64, .load true 2 (.t 63), none⟩, ⟨some 65, .iaddr 2 (.t 49) (.t 50), none⟩, ⟨none, .store 2 (.t 65) (.t 60), none⟩, ⟨some 66, .iaddr 2 (.t 51) (.t 54), none⟩, ⟨none, .store 2 (.t 66) (.t 64), none⟩] [])))))) (.kl [12, 49, 50, 51, 52, 53, 54, 55, 56, 57, 58, 59, 60, 61, 62, 63, 64, 65, 66] (.reg [⟨some 36, .mov (.t 11), none⟩, ⟨some 37, .bin .add (.t 36) (.c (.int .i64 1)), none⟩, ⟨some 11, .mov (.t 37), none⟩])))))
def lp354_0 : C := lb354_0
def fi354 : FI := ⟨.kl [3] (.seq (.reg [⟨some 13, .mov (.t 2), none⟩, ⟨some 14, .mov (.t 1), none⟩, ⟨some 15, .bin .sub (.t 13) (.t 14), none⟩, ⟨some 8, .mov (.t 15), none⟩]) (.kl [2, 13, 14, 15] (.seq (.reg [⟨some 16, .mov (.t 8), none⟩, ⟨some 17, .bin .geq (.t 16) (.c (.int .i64 8)), none⟩]) (.kl [16] (.cond (.t 17) (.kl [17] (.seq (.reg [⟨some 18, .mov (.t 8), none⟩, ⟨some 19, .conv .u64 (.t 18), none⟩, ⟨some 9, .new [.int .u64 0], none⟩, ⟨none, .store 1 (.t 9) (.t 19), none⟩]) (.kl [18, 19] (.seq (.reg [⟨some 20, .mov (.t 8), none⟩, ⟨some 21, .call 288 [.t 20], none⟩, ⟨some 10, .mov (.t 21), none⟩]) (.kl [20, 21] (.seq (.reg [⟨some 22, .mov (.t 1), none⟩, ⟨some 23, .mov (.t 8), none⟩, ⟨some 24, .bin .quo (.t 23) (.c (.int .i64 4)), none⟩, ⟨some 25, .bin .mul (.t 24) (.c (.int .i64 2)), none⟩, ⟨some 26, .bin .add (.t 22) (.t 25), none⟩, ⟨some 27, .bin .sub (.t 26) (.c (.int .i64 1)), none⟩, ⟨some 11, .mov (.t 27), none⟩]) (.kl [22, 23, 24, 25, 26, 27] (.blk 0 (.loop lp354_0))))))))) (.skip)))))), []⟩
/-- slices.choosePivotCmpFunc[impl.Move] -/
def fi355 : FI := ⟨.seq (.reg [⟨some 8, .mov (.c (.int .i64 0)), none⟩, ⟨some 9, .mov (.c (.int .i64 0)), none⟩]) (.kl [8, 9] (.seq (.reg [⟨some 15, .mov (.t 2), none⟩, ⟨some 16, .mov (.t 1), none⟩, ⟨some 17, .bin .sub (.t 15) (.t 16), none⟩, ⟨some 10, .mov (.t 17), none⟩]) (.kl [2, 15, 16, 17] (.seq (.reg [⟨some 11, .new [.int .i64 0], none⟩]) (.seq (.reg [⟨some 18, .mov (.t 1), none⟩, ⟨some 19, .mov (.t 10), none⟩, ⟨some 20, .bin .quo (.t 19) (.c (.int .i64 4)), none⟩, ⟨some 21, .bin .mul (.t 20) (.c (.int .i64 1)), none⟩, ⟨some 22, .bin .add (.t 18) (.t 21), none⟩, ⟨some 12, .mov (.t 22), none⟩]) (.kl [18, 19, 20, 21, 22] (.seq (.reg [⟨some 23, .mov (.t 1), none⟩, ⟨some 24, .mov (.t 10), none⟩, ⟨some 25, .bin .quo (.t 24) (.c (.int .i64 4)), none⟩, ⟨some 26, .bin .mul (.t 25) (.c (.int .i64 2)), none⟩, ⟨some 27, .bin .add (.t 23) (.t 26), none⟩, ⟨some 13, .mov (.t 27), none⟩]) (.kl [23, 24, 25, 26, 27] (.seq (.reg [⟨some 28, .mov (.t 1), none⟩, ⟨some 29, .mov (.t 10), none⟩, ⟨some 30, .bin .quo (.t 29) (.c (.int .i64 4)), none⟩, ⟨some 31, .bin .mul (.t 30) (.c (.int .i64 3)), none⟩, ⟨some 32, .bin .add (.t 28) (.t 31), none⟩, ⟨some 14, .mov (.t 32), none⟩]) (.kl [1, 28, 29, 30, 31, 32] (.seq (.seq (.reg [⟨some 33, .mov (.t 10), none⟩, ⟨some 34, .bin .geq (.t 33) (.c (.int .i64 8)), none⟩]) (.kl [33] (.cond (.t 34) (.kl [34] (.seq (.seq (.reg [⟨some 35, .mov (.t 10), none⟩, ⟨some 36, .bin .geq (.t 35) (.c (.int .i64 50)), none⟩]) (.kl [10, 35] (.cond (.t 36) (.kl [36] (.seq (.reg [⟨some 37, .mov (.t 0), none⟩, ⟨some 38, .mov (.t 12), none⟩, ⟨some 39, .mov (.t 3), none⟩, ⟨some 40, .call 361 [.t 37, .t 38, .t 11, .t 39], none⟩, ⟨some 12, .mov (.t 40), none⟩]) (.kl [37, 38, 39, 40] (.seq (.reg [⟨some 41, .mov (.t 0), none⟩, ⟨some 42, .mov (.t 13), none⟩, ⟨some 43, .mov (.t 3), none⟩, ⟨some 44, .call 361 [.t 41, .t 42, .t 11, .t 43], none⟩, ⟨some 13, .mov (.t 44), none⟩]) (.kl [41, 42, 43, 44] (.reg [⟨some 45, .mov (.t 0), none⟩, ⟨some 46, .mov (.t 14), none⟩, ⟨some 47, .mov (.t 3), none⟩, ⟨some 48, .call 361 [.t 45, .t 46, .t 11, .t 47], none⟩, ⟨some 14, .mov (.t 48), none⟩])))))) (.skip)))) (.kl [36, 45, 46, 47, 48] (.reg [⟨some 49, .mov (.t 0), none⟩, ⟨some 50, .mov (.t 12), none⟩, ⟨some 51, .mov (.t 13), none⟩, ⟨some 52, .mov (.t 14), none⟩, ⟨some 53, .mov (.t 3), none⟩, ⟨some 54, .call 362 [.t 49, .t 50, .t 51, .t 52, .t 11, .t 53], none⟩, ⟨some 13, .mov (.t 54), none⟩])))) (.skip)))) (.kl [0, 3, 10, 12, 14, 34, 49, 50, 51, 52, 53, 54] (.seq (.reg [⟨some 55, .load false 1 (.t 11), none⟩]) (.kl [11] (.blk 0 (.seq (.reg [⟨some 58, .bin .eql (.t 55) (.c (.int .i64 0)), none⟩, ⟨some 57, .mov (.t 58), none⟩]) (.kl [58] (.cond (.t 57) (.kl [55, 57] (.seq (.reg [⟨some 59, .mov (.t 13), none⟩, ⟨some 8, .mov (.t 59), none⟩, ⟨some 9, .mov (.c (.int .i64 1)), none⟩]) (.kl [13, 59] (.ret)))) (.kl [57] (.seq (.reg [⟨some 61, .bin .eql (.t 55) (.c (.int .i64 12)), none⟩, ⟨some 60, .mov (.t 61), none⟩]) (.kl [55, 61] (.cond (.t 60) (.kl [60] (.seq (.reg [⟨some 62, .mov (.t 13), none⟩, ⟨some 8, .mov (.t 62), none⟩, ⟨some 9, .mov (.c (.int .i64 2)), none⟩]) (.kl [13, 62] (.ret)))) (.kl [60] (.seq (.reg [⟨some 56, .mov (.t 13), none⟩, ⟨some 8, .mov (.t 56), none⟩, ⟨some 9, .mov (.c (.int .i64 0)), none⟩]) (.kl [13, 56] (.ret)))))))))))))))))))))))))), [.tmp 8, .tmp 9]⟩
-- lp356_0 HEAD [0, 8, 9] | exit 0: []
/-- slices.reverseRangeCmpFunc[impl.Move] -/
def lb356_0 : C := .kl [32, 33] (.seq (.seq (.reg [⟨some 13, .mov (.t 8), none⟩, ⟨some 14, .mov (.t 9), none⟩, ⟨some 15, .bin .lss (.t 13) (.t 14), none⟩]) (.kl [13, 14] (.cond (.t 15) (.skip) (.kl [0, 8, 9, 15] (.exit 0))))) (.kl [15] (.blk 1 (.seq (.drw [⟨some 16, .mov (.t 0), none⟩, ⟨some 17, .mov (.t 8), none⟩, ⟨some 18, .mov (.t 0), none⟩, ⟨some 19, .mov (.t 9), none⟩, ⟨some 20, .mov (.t 0), none⟩, ⟨some 21, .mov (.t 9), none⟩, ⟨some 22, .iaddr 2 (.t 20) (.t 21), none⟩, ⟨some 23, .load true 2 (.t 22), none⟩, ⟨some 24, .mov (.t 0), none⟩, ⟨some 25, .mov (.t 8), none⟩, ⟨some 26, .iaddr 2 (.t 24) (.t 25), none⟩, ⟨some 27, .load true 2 (.t 26), none⟩, ⟨some 28, .iaddr 2 (.t 16) (.t 17), none⟩, ⟨none, .store 2 (.t 28) (.t 23), none⟩, ⟨some 29, .iaddr 2 (.t 18) (.t 19), none⟩, ⟨none, .store 2 (.t 29) (.t 27), none⟩] []) (.kl [16, 17, 18, 19, 20, 21, 22, 23, 24, 25, 26, 27, 28, 29] (.seq (.reg [⟨some 30, .mov (.t 8), none⟩, ⟨some 31, .bin .add (.t 30) (.c (.int .i64 1)), none⟩, ⟨some 8, .mov (.t 31), none⟩]) (.kl [30, 31] (.reg [⟨some 32, .mov (.t 9), none⟩, ⟨some 33, .bin .sub (.t 32) (.c (.int .i64 1)), none⟩, ⟨some 9, .mov (.t 33), none⟩]))))))))
def lp356_0 : C := lb356_0
def fi356 : FI := ⟨.kl [3] (.seq (.reg [⟨some 10, .mov (.t 1), none⟩, ⟨some 8, .mov (.t 10), none⟩]) (.kl [1, 10] (.seq (.reg [⟨some 11, .mov (.t 2), none⟩, ⟨some 12, .bin .sub (.t 11) (.c (.int .i64 1)), none⟩, ⟨some 9, .mov (.t 12), none⟩]) (.kl [2, 11, 12] (.blk 0 (.loop lp356_0)))))), []⟩
-- lp357_0 HEAD [0, 1, 2, 3, 9, 10] | exit 0: [] | exit 2: [0, 1, 2, 3, 9, 10] | exit 4: [0, 1, 2, 3, 9, 10] | exit 6: [0, 1, 2, 3, 9, 10] | ret: [8]
-- lp357_1 HEAD [0, 1, 2, 3, 9, 10] | exit 2: [0, 1, 2, 3, 9, 10]
-- lp357_2 HEAD [0, 1, 2, 3, 9, 10, 11] | exit 4: [0, 1, 2, 3, 9, 10]
-- lp357_3 HEAD [0, 1, 2, 3, 9, 10, 12] | exit 6: [0, 1, 2, 3, 9, 10]
/-- slices.partialInsertionSortCmpFunc[impl.Move] -/
def lb357_3 : C := .kl [110, 111] (.seq (.seq (.reg [⟨some 107, .mov (.t 12), none⟩, ⟨some 108, .mov (.t 2), none⟩, ⟨some 109, .bin .lss (.t 107) (.t 108), none⟩]) (.kl [107, 108] (.cond (.t 109) (.skip) (.kl [12, 109] (.exit 6))))) (.kl [109] (.seq (.blk 7 (.seq (.seq (.drw [⟨some 112, .mov (.t 3), none⟩, ⟨some 113, .mov (.t 0), none⟩, ⟨some 114, .mov (.t 12), none⟩, ⟨some 115, .iaddr 2 (.t 113) (.t 114), none⟩, ⟨some 116, .load true 2 (.t 115), none⟩, ⟨some 117, .mov (.t 0), none⟩, ⟨some 118, .mov (.t 12), none⟩, ⟨some 119, .bin .sub (.t 118) (.c (.int .i64 1)), none⟩, ⟨some 120, .iaddr 2 (.t 117) (.t 119), none⟩, ⟨some 121, .load true 2 (.t 120), none⟩, ⟨some 122, .callv (.t 112) [.t 116, .t 121], none⟩, ⟨some 123, .bin .lss (.t 122) (.c (.int .i64 0)), none⟩, ⟨some 124, .un .not (.t 123), none⟩] []) (.kl [112, 113, 114, 115, 116, 117, 118, 119, 120, 121, 122, 123] (.cond (.t 124) (.kl [12, 124] (.exit 6)) (.skip)))) (.kl [124] (.drw [⟨some 125, .mov (.t 0), none⟩, ⟨some 126, .mov (.t 12), none⟩, ⟨some 127, .mov (.t 0), none⟩, ⟨some 128, .mov (.t 12), none⟩, ⟨some 129, .bin .sub (.t 128) (.c (.int .i64 1)), none⟩, ⟨some 130, .mov (.t 0), none⟩, ⟨some 131, .mov (.t 12), none⟩, ⟨some 132, .bin .sub (.t 131) (.c (.int .i64 1)), none⟩, ⟨some 133, .iaddr 2 (.t 130) (.t 132), none⟩, ⟨some 134, .load true 2 (.t 133), none⟩, ⟨some 135, .mov (.t 0), none⟩, ⟨some 136, .mov (.t 12), none⟩, ⟨some 137, .iaddr 2 (.t 135) (.t 136), none⟩, ⟨some 138, .load true 2 (.t 137), none⟩, ⟨some 139, .iaddr 2 (.t 125) (.t 126), none⟩, ⟨none, .store 2 (.t 139) (.t 134), none⟩, ⟨some 140, .iaddr 2 (.t 127) (.t 129), none⟩, ⟨none, .store 2 (.t 140) (.t 138), none⟩] [])))) (.kl [125, 126, 127, 128, 129, 130, 131, 132, 133, 134, 135, 136, 137, 138, 139, 140] (.reg [⟨some 110, .mov (.t 12), none⟩, ⟨some 111, .bin .add (.t 110) (.c (.int .i64 1)), none⟩, ⟨some 12, .mov (.t 111), none⟩])))))
def lp357_3 : C := lb357_3
def lb357_2 : C := .kl [70, 71] (.seq (.seq (.reg [⟨some 68, .mov (.t 11), none⟩, ⟨some 69, .bin .geq (.t 68) (.c (.int .i64 1)), none⟩]) (.kl [68] (.cond (.t 69) (.skip) (.kl [11, 69] (.exit 4))))) (.kl [69] (.seq (.blk 5 (.seq (.seq (.drw [⟨some 72, .mov (.t 3), none⟩, ⟨some 73, .mov (.t 0), none⟩, ⟨some 74, .mov (.t 11), none⟩, ⟨some 75, .iaddr 2 (.t 73) (.t 74), none⟩, ⟨some 76, .load true 2 (.t 75), none⟩, ⟨some 77, .mov (.t 0), none⟩, ⟨some 78, .mov (.t 11), none⟩, ⟨some 79, .bin .sub (.t 78) (.c (.int .i64 1)), none⟩, ⟨some 80, .iaddr 2 (.t 77) (.t 79), none⟩, ⟨some 81, .load true 2 (.t 80), none⟩, ⟨some 82, .callv (.t 72) [.t 76, .t 81], none⟩, ⟨some 83, .bin .lss (.t 82) (.c (.int .i64 0)), none⟩, ⟨some 84, .un .not (.t 83), none⟩] []) (.kl [72, 73, 74, 75, 76, 77, 78, 79, 80, 81, 82, 83] (.cond (.t 84) (.kl [11, 84] (.exit 4)) (.skip)))) (.kl [84] (.drw [⟨some 85, .mov (.t 0), none⟩, ⟨some 86, .mov (.t 11), none⟩, ⟨some 87, .mov (.t 0), none⟩, ⟨some 88, .mov (.t 11), none⟩, ⟨some 89, .bin .sub (.t 88) (.c (.int .i64 1)), none⟩, ⟨some 90, .mov (.t 0), none⟩, ⟨some 91, .mov (.t 11), none⟩, ⟨some 92, .bin .sub (.t 91) (.c (.int .i64 1)), none⟩, ⟨some 93, .iaddr 2 (.t 90) (.t 92), none⟩, ⟨some 94, .load true 2 (.t 93), none⟩, ⟨some 95, .mov (.t 0), none⟩, ⟨some 96, .mov (.t 11), none⟩, ⟨some 97, .iaddr 2 (.t 95) (.t 96), none⟩, ⟨some 98, .load true 2 (.t 97), none⟩, ⟨some 99, .iaddr 2 (.t 85) (.t 86), none⟩, ⟨none, .store 2 (.t 99) (.t 94), none⟩, ⟨some 100, .iaddr 2 (.t 87) (.t 89), none⟩, ⟨none, .store 2 (.t 100) (.t 98), none⟩] [])))) (.kl [85, 86, 87, 88, 89, 90, 91, 92, 93, 94, 95, 96, 97, 98, 99, 100] (.reg [⟨some 70, .mov (.t 11), none⟩, ⟨some 71, .bin .sub (.t 70) (.c (.int .i64 1)), none⟩, ⟨some 11, .mov (.t 71), none⟩])))))
def lp357_2 : C := lb357_2
def lb357_1 : C := .kl [37, 38] (.seq (.seq (.drw [⟨some 19, .mov (.t 9), none⟩, ⟨some 20, .mov (.t 2), none⟩, ⟨some 21, .bin .lss (.t 19) (.t 20), none⟩, ⟨some 22, .mov (.t 21), none⟩, ⟨some 23, .mov (.t 3), some (22, true)⟩, ⟨some 24, .mov (.t 0), some (22, true)⟩, ⟨some 25, .mov (.t 9), some (22, true)⟩, ⟨some 26, .iaddr 2 (.t 24) (.t 25), some (22, true)⟩, ⟨some 27, .load true 2 (.t 26), some (22, true)⟩, ⟨some 28, .mov (.t 0), some (22, true)⟩, ⟨some 29, .mov (.t 9), some (22, true)⟩, ⟨some 30, .bin .sub (.t 29) (.c (.int .i64 1)), some (22, true)⟩, ⟨some 31, .iaddr 2 (.t 28) (.t 30), some (22, true)⟩, ⟨some 32, .load true 2 (.t 31), some (22, true)⟩, ⟨some 33, .callv (.t 23) [.t 27, .t 32], some (22, true)⟩, ⟨some 34, .bin .lss (.t 33) (.c (.int .i64 0)), some (22, true)⟩, ⟨some 35, .un .not (.t 34), some (22, true)⟩, ⟨some 36, .pick (.t 22) (.t 35) (.c (.bool false)), none⟩] []) (.kl [19, 20, 21, 22, 23, 24, 25, 26, 27, 28, 29, 30, 31, 32, 33, 34, 35] (.cond (.t 36) (.skip) (.kl [36] (.exit 2))))) (.kl [36] (.blk 3 (.reg [⟨some 37, .mov (.t 9), none⟩, ⟨some 38, .bin .add (.t 37) (.c (.int .i64 1)), none⟩, ⟨some 9, .mov (.t 38), none⟩]))))
def lp357_1 : C := lb357_1
def lb357_0 : C := .kl [17, 18] (.seq (.seq (.reg [⟨some 15, .mov (.t 10), none⟩, ⟨some 16, .bin .lss (.t 15) (.c (.int .i64 5)), none⟩]) (.kl [15] (.cond (.t 16) (.skip) (.kl [0, 1, 2, 3, 9, 10, 16] (.exit 0))))) (.kl [16] (.seq (.blk 1 (.seq (.blk 2 (.loop lp357_1)) (.seq (.seq (.reg [⟨some 39, .mov (.t 9), none⟩, ⟨some 40, .mov (.t 2), none⟩, ⟨some 41, .bin .eql (.t 39) (.t 40), none⟩]) (.kl [39, 40] (.cond (.t 41) (.kl [0, 1, 2, 3, 9, 10, 41] (.seq (.reg [⟨some 8, .mov (.c (.bool true)), none⟩]) (.ret))) (.skip)))) (.kl [41] (.seq (.seq (.reg [⟨some 42, .mov (.t 2), none⟩, ⟨some 43, .mov (.t 1), none⟩, ⟨some 44, .bin .sub (.t 42) (.t 43), none⟩, ⟨some 45, .bin .lss (.t 44) (.c (.int .i64 50)), none⟩]) (.kl [42, 43, 44] (.cond (.t 45) (.kl [0, 1, 2, 3, 9, 10, 45] (.seq (.reg [⟨some 8, .mov (.c (.bool false)), none⟩]) (.ret))) (.skip)))) (.kl [45] (.seq (.drw [⟨some 46, .mov (.t 0), none⟩, ⟨some 47, .mov (.t 9), none⟩, ⟨some 48, .mov (.t 0), none⟩, ⟨some 49, .mov (.t 9), none⟩, ⟨some 50, .bin .sub (.t 49) (.c (.int .i64 1)), none⟩, ⟨some 51, .mov (.t 0), none⟩, ⟨some 52, .mov (.t 9), none⟩, ⟨some 53, .bin .sub (.t 52) (.c (.int .i64 1)), none⟩, ⟨some 54, .iaddr 2 (.t 51) (.t 53), none⟩, ⟨some 55, .load true 2 (.t 54), none⟩, ⟨some 56, .mov (.t 0), none⟩, ⟨some 57, .mov (.t 9), none⟩, ⟨some 58, .iaddr 2 (.t 56) (.t 57), none⟩, ⟨some 59, .load true 2 (.t 58), none⟩, ⟨some 60, .iaddr 2 (.t 46) (.t 47), none⟩, ⟨none, .store 2 (.t 60) (.t 55), none⟩, ⟨some 61, .iaddr 2 (.t 48) (.t 50), none⟩, ⟨none, .store 2 (.t 61) (.t 59), none⟩] []) (.kl [46, 47, 48, 49, 50, 51, 52, 53, 54, 55, 56, 57, 58, 59, 60, 61] (.seq (.seq (.reg [⟨some 62, .mov (.t 9), none⟩, ⟨some 63, .mov (.t 1), none⟩, ⟨some 64, .bin .sub (.t 62) (.t 63), none⟩, ⟨some 65, .bin .geq (.t 64) (.c (.int .i64 2)), none⟩]) (.kl [62, 63, 64] (.cond (.t 65) (.kl [65] (.seq (.reg [⟨some 66, .mov (.t 9), none⟩, ⟨some 67, .bin .sub (.t 66) (.c (.int .i64 1)), none⟩, ⟨some 11, .mov (.t 67), none⟩]) (.kl [66, 67] (.blk 4 (.loop lp357_2))))) (.skip)))) (.kl [65] (.seq (.reg [⟨some 101, .mov (.t 2), none⟩, ⟨some 102, .mov (.t 9), none⟩, ⟨some 103, .bin .sub (.t 101) (.t 102), none⟩, ⟨some 104, .bin .geq (.t 103) (.c (.int .i64 2)), none⟩]) (.kl [101, 102, 103] (.cond (.t 104) (.kl [104] (.seq (.reg [⟨some 105, .mov (.t 9), none⟩, ⟨some 106, .bin .add (.t 105) (.c (.int .i64 1)), none⟩, ⟨some 12, .mov (.t 106), none⟩]) (.kl [105, 106] (.blk 6 (.loop lp357_3))))) (.skip)))))))))))))) (.kl [104] (.reg [⟨some 17, .mov (.t 10), none⟩, ⟨some 18, .bin .add (.t 17) (.c (.int .i64 1)), none⟩, ⟨some 10, .mov (.t 18), none⟩])))))
def lp357_0 : C := lb357_0
def fi357 : FI := ⟨.seq (.reg [⟨some 8, .mov (.c (.bool false)), none⟩]) (.kl [8] (.seq (.reg [⟨some 13, .mov (.t 1), none⟩, ⟨some 14, .bin .add (.t 13) (.c (.int .i64 1)), none⟩, ⟨some 9, .mov (.t 14), none⟩]) (.kl [13, 14] (.seq (.seq (.reg [⟨some 10, .mov (.c (.int .i64 0)), none⟩]) (.blk 0 (.loop lp357_0))) (.seq (.reg [⟨some 8, .mov (.c (.bool false)), none⟩]) (.ret)))))), [.tmp 8]⟩
-- lp358_0 HEAD [0, 1, 4, 11, 12] | exit 0: [11] | exit 2: [0, 1, 4, 11, 12] | exit 4: [0, 1, 4, 11, 12]
-- lp358_1 HEAD [0, 1, 4, 11, 12] | exit 2: [0, 1, 4, 11, 12]
-- lp358_2 HEAD [0, 1, 4, 11, 12] | exit 4: [0, 1, 4, 11, 12]
/-- slices.partitionEqualCmpFunc[impl.Move] -/
def lb358_2 : C := .kl [66, 67] (.seq (.seq (.drw [⟨some 50, .mov (.t 11), none⟩, ⟨some 51, .mov (.t 12), none⟩, ⟨some 52, .bin .leq (.t 50) (.t 51), none⟩, ⟨some 53, .mov (.t 52), none⟩, ⟨some 54, .mov (.t 4), some (53, true)⟩, ⟨some 55, .mov (.t 0), some (53, true)⟩, ⟨some 56, .mov (.t 1), some (53, true)⟩, ⟨some 57, .iaddr 2 (.t 55) (.t 56), some (53, true)⟩, ⟨some 58, .load true 2 (.t 57), some (53, true)⟩, ⟨some 59, .mov (.t 0), some (53, true)⟩, ⟨some 60, .mov (.t 12), some (53, true)⟩, ⟨some 61, .iaddr 2 (.t 59) (.t 60), some (53, true)⟩, ⟨some 62, .load true 2 (.t 61), some (53, true)⟩, ⟨some 63, .callv (.t 54) [.t 58, .t 62], some (53, true)⟩, ⟨some 64, .bin .lss (.t 63) (.c (.int .i64 0)), some (53, true)⟩, ⟨some 65, .pick (.t 53) (.t 64) (.c (.bool false)), none⟩] []) (.kl [50, 51, 52, 53, 54, 55, 56, 57, 58, 59, 60, 61, 62, 63, 64] (.cond (.t 65) (.skip) (.kl [65] (.exit 4))))) (.kl [65] (.blk 5 (.reg [⟨some 66, .mov (.t 12), none⟩, ⟨some 67, .bin .sub (.t 66) (.c (.int .i64 1)), none⟩, ⟨some 12, .mov (.t 67), none⟩]))))
def lp358_2 : C := lb358_2
def lb358_1 : C := .kl [48, 49] (.seq (.seq (.drw [⟨some 31, .mov (.t 11), none⟩, ⟨some 32, .mov (.t 12), none⟩, ⟨some 33, .bin .leq (.t 31) (.t 32), none⟩, ⟨some 34, .mov (.t 33), none⟩, ⟨some 35, .mov (.t 4), some (34, true)⟩, ⟨some 36, .mov (.t 0), some (34, true)⟩, ⟨some 37, .mov (.t 1), some (34, true)⟩, ⟨some 38, .iaddr 2 (.t 36) (.t 37), some (34, true)⟩, ⟨some 39, .load true 2 (.t 38), some (34, true)⟩, ⟨some 40, .mov (.t 0), some (34, true)⟩, ⟨some 41, .mov (.t 11), some (34, true)⟩, ⟨some 42, .iaddr 2 (.t 40) (.t 41), some (34, true)⟩, ⟨some 43, .load true 2 (.t 42), some (34, true)⟩, ⟨some 44, .callv (.t 35) [.t 39, .t 43], some (34, true)⟩, ⟨some 45, .bin .lss (.t 44) (.c (.int .i64 0)), some (34, true)⟩, ⟨some 46, .un .not (.t 45), some (34, true)⟩, ⟨some 47, .pick (.t 34) (.t 46) (.c (.bool false)), none⟩] []) (.kl [31, 32, 33, 34, 35, 36, 37, 38, 39, 40, 41, 42, 43, 44, 45, 46] (.cond (.t 47) (.skip) (.kl [47] (.exit 2))))) (.kl [47] (.blk 3 (.reg [⟨some 48, .mov (.t 11), none⟩, ⟨some 49, .bin .add (.t 48) (.c (.int .i64 1)), none⟩, ⟨some 11, .mov (.t 49), none⟩]))))
def lp358_1 : C := lb358_1
def lb358_0 : C := .kl [87, 88] (.blk 1 (.seq (.blk 2 (.loop lp358_1)) (.seq (.blk 4 (.loop lp358_2)) (.seq (.seq (.reg [⟨some 68, .mov (.t 11), none⟩, ⟨some 69, .mov (.t 12), none⟩, ⟨some 70, .bin .gtr (.t 68) (.t 69), none⟩]) (.kl [68, 69] (.cond (.t 70) (.kl [0, 1, 4, 12, 70] (.exit 0)) (.skip)))) (.kl [70] (.seq (.drw [⟨some 71, .mov (.t 0), none⟩, ⟨some 72, .mov (.t 11), none⟩, ⟨some 73, .mov (.t 0), none⟩, ⟨some 74, .mov (.t 12), none⟩, ⟨some 75, .mov (.t 0), none⟩, ⟨some 76, .mov (.t 12), none⟩, ⟨some 77, .iaddr 2 (.t 75) (.t 76), none⟩, ⟨some 78, .load true 2 (.t 77), none⟩, ⟨some 79, .mov (.t 0), none⟩, ⟨some 80, .mov (.t 11), none⟩, ⟨some 81, .iaddr 2 (.t 79) (.t 80), none⟩, ⟨some 82, .load true 2 (.t 81), none⟩, ⟨some 83, .iaddr 2 (.t 71) (.t 72), none⟩, ⟨none, .store 2 (.t 83) (.t 78), none⟩, ⟨some 84, .iaddr 2 (.t 73) (.t 74), none⟩, ⟨none, .store 2 (.t 84) (.t 82), none⟩] []) (.kl [71, 72, 73, 74, 75, 76, 77, 78, 79, 80, 81, 82, 83, 84] (.seq (.reg [⟨some 85, .mov (.t 11), none⟩, ⟨some 86, .bin .add (.t 85) (.c (.int .i64 1)), none⟩, ⟨some 11, .mov (.t 86), none⟩]) (.kl [85, 86] (.reg [⟨some 87, .mov (.t 12), none⟩, ⟨some 88, .bin .sub (.t 87) (.c (.int .i64 1)), none⟩, ⟨some 12, .mov (.t 88), none⟩]))))))))))
def lp358_0 : C := lb358_0
def fi358 : FI := ⟨.seq (.reg [⟨some 10, .mov (.c (.int .i64 0)), none⟩]) (.kl [10] (.seq (.drw [⟨some 13, .mov (.t 0), none⟩, ⟨some 14, .mov (.t 1), none⟩, ⟨some 15, .mov (.t 0), none⟩, ⟨some 16, .mov (.t 3), none⟩, ⟨some 17, .mov (.t 0), none⟩, ⟨some 18, .mov (.t 3), none⟩, ⟨some 19, .iaddr 2 (.t 17) (.t 18), none⟩, ⟨some 20, .load true 2 (.t 19), none⟩, ⟨some 21, .mov (.t 0), none⟩, ⟨some 22, .mov (.t 1), none⟩, ⟨some 23, .iaddr 2 (.t 21) (.t 22), none⟩, ⟨some 24, .load true 2 (.t 23), none⟩, ⟨some 25, .iaddr 2 (.t 13) (.t 14), none⟩, ⟨none, .store 2 (.t 25) (.t 20), none⟩, ⟨some 26, .iaddr 2 (.t 15) (.t 16), none⟩, ⟨none, .store 2 (.t 26) (.t 24), none⟩] []) (.kl [3, 13, 14, 15, 16, 17, 18, 19, 20, 21, 22, 23, 24, 25, 26] (.seq (.reg [⟨some 27, .mov (.t 1), none⟩, ⟨some 28, .bin .add (.t 27) (.c (.int .i64 1)), none⟩, ⟨some 29, .mov (.t 2), none⟩, ⟨some 30, .bin .sub (.t 29) (.c (.int .i64 1)), none⟩, ⟨some 11, .mov (.t 28), none⟩, ⟨some 12, .mov (.t 30), none⟩]) (.kl [2, 27, 28, 29, 30] (.seq (.blk 0 (.loop lp358_0)) (.seq (.reg [⟨some 89, .mov (.t 11), none⟩, ⟨some 10, .mov (.t 89), none⟩]) (.kl [11, 89] (.ret))))))))), [.tmp 10]⟩
-- lp359_0 HEAD [0, 1, 4, 12, 13] | exit 0: [0, 1, 4, 12, 13]
-- lp359_1 HEAD [0, 1, 4, 12, 13] | exit 2: [0, 1, 4, 12, 13]
-- lp359_2 HEAD [0, 1, 4, 12, 13] | exit 4: [0, 1, 13] | exit 6: [0, 1, 4, 12, 13] | exit 8: [0, 1, 4, 12, 13]
-- lp359_3 HEAD [0, 1, 4, 12, 13] | exit 6: [0, 1, 4, 12, 13]
-- lp359_4 HEAD [0, 1, 4, 12, 13] | exit 8: [0, 1, 4, 12, 13]
/-- slices.partitionCmpFunc[impl.Move] -/
def lb359_4 : C := .kl [140, 141] (.seq (.seq (.drw [⟨some 123, .mov (.t 12), none⟩, ⟨some 124, .mov (.t 13), none⟩, ⟨some 125, .bin .leq (.t 123) (.t 124), none⟩, ⟨some 126, .mov (.t 125), none⟩, ⟨some 127, .mov (.t 4), some (126, true)⟩, ⟨some 128, .mov (.t 0), some (126, true)⟩, ⟨some 129, .mov (.t 13), some (126, true)⟩, ⟨some 130, .iaddr 2 (.t 128) (.t 129), some (126, true)⟩, ⟨some 131, .load true 2 (.t 130), some (126, true)⟩, ⟨some 132, .mov (.t 0), some (126, true)⟩, ⟨some 133, .mov (.t 1), some (126, true)⟩, ⟨some 134, .iaddr 2 (.t 132) (.t 133), some (126, true)⟩, ⟨some 135, .load true 2 (.t 134), some (126, true)⟩, ⟨some 136, .callv (.t 127) [.t 131, .t 135], some (126, true)⟩, ⟨some 137, .bin .lss (.t 136) (.c (.int .i64 0)), some (126, true)⟩, ⟨some 138, .un .not (.t 137), some (126, true)⟩, ⟨some 139, .pick (.t 126) (.t 138) (.c (.bool false)), none⟩] []) (.kl [123, 124, 125, 126, 127, 128, 129, 130, 131, 132, 133, 134, 135, 136, 137, 138] (.cond (.t 139) (.skip) (.kl [139] (.exit 8))))) (.kl [139] (.blk 9 (.reg [⟨some 140, .mov (.t 13), none⟩, ⟨some 141, .bin .sub (.t 140) (.c (.int .i64 1)), none⟩, ⟨some 13, .mov (.t 141), none⟩]))))
def lp359_4 : C := lb359_4
def lb359_3 : C := .kl [121, 122] (.seq (.seq (.drw [⟨some 105, .mov (.t 12), none⟩, ⟨some 106, .mov (.t 13), none⟩, ⟨some 107, .bin .leq (.t 105) (.t 106), none⟩, ⟨some 108, .mov (.t 107), none⟩, ⟨some 109, .mov (.t 4), some (108, true)⟩, ⟨some 110, .mov (.t 0), some (108, true)⟩, ⟨some 111, .mov (.t 12), some (108, true)⟩, ⟨some 112, .iaddr 2 (.t 110) (.t 111), some (108, true)⟩, ⟨some 113, .load true 2 (.t 112), some (108, true)⟩, ⟨some 114, .mov (.t 0), some (108, true)⟩, ⟨some 115, .mov (.t 1), some (108, true)⟩, ⟨some 116, .iaddr 2 (.t 114) (.t 115), some (108, true)⟩, ⟨some 117, .load true 2 (.t 116), some (108, true)⟩, ⟨some 118, .callv (.t 109) [.t 113, .t 117], some (108, true)⟩, ⟨some 119, .bin .lss (.t 118) (.c (.int .i64 0)), some (108, true)⟩, ⟨some 120, .pick (.t 108) (.t 119) (.c (.bool false)), none⟩] []) (.kl [105, 106, 107, 108, 109, 110, 111, 112, 113, 114, 115, 116, 117, 118, 119] (.cond (.t 120) (.skip) (.kl [120] (.exit 6))))) (.kl [120] (.blk 7 (.reg [⟨some 121, .mov (.t 12), none⟩, ⟨some 122, .bin .add (.t 121) (.c (.int .i64 1)), none⟩, ⟨some 12, .mov (.t 122), none⟩]))))
def lp359_3 : C := lb359_3
def lb359_2 : C := .kl [161, 162] (.blk 5 (.seq (.blk 6 (.loop lp359_3)) (.seq (.blk 8 (.loop lp359_4)) (.seq (.seq (.reg [⟨some 142, .mov (.t 12), none⟩, ⟨some 143, .mov (.t 13), none⟩, ⟨some 144, .bin .gtr (.t 142) (.t 143), none⟩]) (.kl [142, 143] (.cond (.t 144) (.kl [4, 12, 144] (.exit 4)) (.skip)))) (.kl [144] (.seq (.drw [⟨some 145, .mov (.t 0), none⟩, ⟨some 146, .mov (.t 12), none⟩, ⟨some 147, .mov (.t 0), none⟩, ⟨some 148, .mov (.t 13), none⟩, ⟨some 149, .mov (.t 0), none⟩, ⟨some 150, .mov (.t 13), none⟩, ⟨some 151, .iaddr 2 (.t 149) (.t 150), none⟩, ⟨some 152, .load true 2 (.t 151), none⟩, ⟨some 153, .mov (.t 0), none⟩, ⟨some 154, .mov (.t 12), none⟩, ⟨some 155, .iaddr 2 (.t 153) (.t 154), none⟩, ⟨some 156, .load true 2 (.t 155), none⟩, ⟨some 157, .iaddr 2 (.t 145) (.t 146), none⟩, ⟨none, .store 2 (.t 157) (.t 152), none⟩, ⟨some 158, .iaddr 2 (.t 147) (.t 148), none⟩, ⟨none, .store 2 (.t 158) (.t 156), none⟩] []) (.kl [145, 146, 147, 148, 149, 150, 151, 152, 153, 154, 155, 156, 157, 158] (.seq (.reg [⟨some 159, .mov (.t 12), none⟩, ⟨some 160, .bin .add (.t 159) (.c (.int .i64 1)), none⟩, ⟨some 12, .mov (.t 160), none⟩]) (.kl [159, 160] (.reg [⟨some 161, .mov (.t 13), none⟩, ⟨some 162, .bin .sub (.t 161) (.c (.int .i64 1)), none⟩, ⟨some 13, .mov (.t 162), none⟩]))))))))))
def lp359_2 : C := lb359_2
def lb359_1 : C := .kl [67, 68] (.seq (.seq (.drw [⟨some 50, .mov (.t 12), none⟩, ⟨some 51, .mov (.t 13), none⟩, ⟨some 52, .bin .leq (.t 50) (.t 51), none⟩, ⟨some 53, .mov (.t 52), none⟩, ⟨some 54, .mov (.t 4), some (53, true)⟩, ⟨some 55, .mov (.t 0), some (53, true)⟩, ⟨some 56, .mov (.t 13), some (53, true)⟩, ⟨some 57, .iaddr 2 (.t 55) (.t 56), some (53, true)⟩, ⟨some 58, .load true 2 (.t 57), some (53, true)⟩, ⟨some 59, .mov (.t 0), some (53, true)⟩, ⟨some 60, .mov (.t 1), some (53, true)⟩, ⟨some 61, .iaddr 2 (.t 59) (.t 60), some (53, true)⟩, ⟨some 62, .load true 2 (.t 61), some (53, true)⟩, ⟨some 63, .callv (.t 54) [.t 58, .t 62], some (53, true)⟩, ⟨some 64, .bin .lss (.t 63) (.c (.int .i64 0)), some (53, true)⟩, ⟨some 65, .un .not (.t 64), some (53, true)⟩, ⟨some 66, .pick (.t 53) (.t 65) (.c (.bool false)), none⟩] []) (.kl [50, 51, 52, 53, 54, 55, 56, 57, 58, 59, 60, 61, 62, 63, 64, 65] (.cond (.t 66) (.skip) (.kl [66] (.exit 2))))) (.kl [66] (.blk 3 (.reg [⟨some 67, .mov (.t 13), none⟩, ⟨some 68, .bin .sub (.t 67) (.c (.int .i64 1)), none⟩, ⟨some 13, .mov (.t 68), none⟩]))))
def lp359_1 : C := lb359_1
def lb359_0 : C := .kl [48, 49] (.seq (.seq (.drw [⟨some 32, .mov (.t 12), none⟩, ⟨some 33, .mov (.t 13), none⟩, ⟨some 34, .bin .leq (.t 32) (.t 33), none⟩, ⟨some 35, .mov (.t 34), none⟩, ⟨some 36, .mov (.t 4), some (35, true)⟩, ⟨some 37, .mov (.t 0), some (35, true)⟩, ⟨some 38, .mov (.t 12), some (35, true)⟩, ⟨some 39, .iaddr 2 (.t 37) (.t 38), some (35, true)⟩, ⟨some 40, .load true 2 (.t 39), some (35, true)⟩, ⟨some 41, .mov (.t 0), some (35, true)⟩, ⟨some 42, .mov (.t 1), some (35, true)⟩, ⟨some 43, .iaddr 2 (.t 41) (.t 42), some (35, true)⟩, ⟨some 44, .load true 2 (.t 43), some (35, true)⟩, ⟨some 45, .callv (.t 36) [.t 40, .t 44], some (35, true)⟩, ⟨some 46, .bin .lss (.t 45) (.c (.int .i64 0)), some (35, true)⟩, ⟨some 47, .pick (.t 35) (.t 46) (.c (.bool false)), none⟩] []) (.kl [32, 33, 34, 35, 36, 37, 38, 39, 40, 41, 42, 43, 44, 45, 46] (.cond (.t 47) (.skip) (.kl [47] (.exit 0))))) (.kl [47] (.blk 1 (.reg [⟨some 48, .mov (.t 12), none⟩, ⟨some 49, .bin .add (.t 48) (.c (.int .i64 1)), none⟩, ⟨some 12, .mov (.t 49), none⟩]))))
def lp359_0 : C := lb359_0
def fi359 : FI := ⟨.seq (.reg [⟨some 10, .mov (.c (.int .i64 0)), none⟩, ⟨some 11, .mov (.c (.bool false)), none⟩]) (.kl [10, 11] (.seq (.drw [⟨some 14, .mov (.t 0), none⟩, ⟨some 15, .mov (.t 1), none⟩, ⟨some 16, .mov (.t 0), none⟩, ⟨some 17, .mov (.t 3), none⟩, ⟨some 18, .mov (.t 0), none⟩, ⟨some 19, .mov (.t 3), none⟩, ⟨some 20, .iaddr 2 (.t 18) (.t 19), none⟩, ⟨some 21, .load true 2 (.t 20), none⟩, ⟨some 22, .mov (.t 0), none⟩, ⟨some 23, .mov (.t 1), none⟩, ⟨some 24, .iaddr 2 (.t 22) (.t 23), none⟩, ⟨some 25, .load true 2 (.t 24), none⟩, ⟨some 26, .iaddr 2 (.t 14) (.t 15), none⟩, ⟨none, .store 2 (.t 26) (.t 21), none⟩, ⟨some 27, .iaddr 2 (.t 16) (.t 17), none⟩, ⟨none, .store 2 (.t 27) (.t 25), none⟩] []) (.kl [3, 14, 15, 16, 17, 18, 19, 20, 21, 22, 23, 24, 25, 26, 27] (.seq (.reg [⟨some 28, .mov (.t 1), none⟩, ⟨some 29, .bin .add (.t 28) (.c (.int .i64 1)), none⟩, ⟨some 30, .mov (.t 2), none⟩, ⟨some 31, .bin .sub (.t 30) (.c (.int .i64 1)), none⟩, ⟨some 12, .mov (.t 29), none⟩, ⟨some 13, .mov (.t 31), none⟩]) (.kl [2, 28, 29, 30, 31] (.seq (.blk 0 (.loop lp359_0)) (.seq (.blk 2 (.loop lp359_1)) (.seq (.seq (.reg [⟨some 69, .mov (.t 12), none⟩, ⟨some 70, .mov (.t 13), none⟩, ⟨some 71, .bin .gtr (.t 69) (.t 70), none⟩]) (.kl [69, 70] (.cond (.t 71) (.kl [4, 12, 71] (.seq (.drw [⟨some 72, .mov (.t 0), none⟩, ⟨some 73, .mov (.t 13), none⟩, ⟨some 74, .mov (.t 0), none⟩, ⟨some 75, .mov (.t 1), none⟩, ⟨some 76, .mov (.t 0), none⟩, ⟨some 77, .mov (.t 1), none⟩, ⟨some 78, .iaddr 2 (.t 76) (.t 77), none⟩, ⟨some 79, .load true 2 (.t 78), none⟩, ⟨some 80, .mov (.t 0), none⟩, ⟨some 81, .mov (.t 13), none⟩, ⟨some 82, .iaddr 2 (.t 80) (.t 81), none⟩, ⟨some 83, .load true 2 (.t 82), none⟩, ⟨some 84, .iaddr 2 (.t 72) (.t 73), none⟩, ⟨none, .store 2 (.t 84) (.t 79), none⟩, ⟨some 85, .iaddr 2 (.t 74) (.t 75), none⟩, ⟨none, .store 2 (.t 85) (.t 83), none⟩] []) (.kl [0, 1, 72, 73, 74, 75, 76, 77, 78, 79, 80, 81, 82, 83, 84, 85] (.seq (.reg [⟨some 86, .mov (.t 13), none⟩, ⟨some 10, .mov (.t 86), none⟩, ⟨some 11, .mov (.c (.bool true)), none⟩]) (.kl [13, 86] (.ret)))))) (.skip)))) (.kl [71] (.seq (.drw [⟨some 87, .mov (.t 0), none⟩, ⟨some 88, .mov (.t 12), none⟩, ⟨some 89, .mov (.t 0), none⟩, ⟨some 90, .mov (.t 13), none⟩, ⟨some 91, .mov (.t 0), none⟩, ⟨some 92, .mov (.t 13), none⟩, ⟨some 93, .iaddr 2 (.t 91) (.t 92), none⟩, ⟨some 94, .load true 2 (.t 93), none⟩, ⟨some 95, .mov (.t 0), none⟩, ⟨some 96, .mov (.t 12), none⟩, ⟨some 97, .iaddr 2 (.t 95) (.t 96), none⟩, ⟨some 98, .load true 2 (.t 97), none⟩, ⟨some 99, .iaddr 2 (.t 87) (.t 88), none⟩, ⟨none, .store 2 (.t 99) (.t 94), none⟩, ⟨some 100, .iaddr 2 (.t 89) (.t 90), none⟩, ⟨none, .store 2 (.t 100) (.t 98), none⟩] []) (.kl [87, 88, 89, 90, 91, 92, 93, 94, 95, 96, 97, 98, 99, 100] (.seq (.reg [⟨some 101, .mov (.t 12), none⟩, ⟨some 102, .bin .add (.t 101) (.c (.int .i64 1)), none⟩, ⟨some 12, .mov (.t 102), none⟩]) (.kl [101, 102] (.seq (.reg [⟨some 103, .mov (.t 13), none⟩, ⟨some 104, .bin .sub (.t 103) (.c (.int .i64 1)), none⟩, ⟨some 13, .mov (.t 104), none⟩]) (.kl [103, 104] (.seq (.blk 4 (.loop lp359_2)) (.seq (.drw [⟨some 163, .mov (.t 0), none⟩, ⟨some 164, .mov (.t 13), none⟩, ⟨some 165, .mov (.t 0), none⟩, ⟨some 166, .mov (.t 1), none⟩, ⟨some 167, .mov (.t 0), none⟩, ⟨some 168, .mov (.t 1), none⟩, ⟨some 169, .iaddr 2 (.t 167) (.t 168), none⟩, ⟨some 170, .load true 2 (.t 169), none⟩, ⟨some 171, .mov (.t 0), none⟩, ⟨some 172, .mov (.t 13), none⟩, ⟨some 173, .iaddr 2 (.t 171) (.t 172), none⟩, ⟨some 174, .load true 2 (.t 173), none⟩, ⟨some 175, .iaddr 2 (.t 163) (.t 164), none⟩, ⟨none, .store 2 (.t 175) (.t 170), none⟩, ⟨some 176, .iaddr 2 (.t 165) (.t 166), none⟩, ⟨none, .store 2 (.t 176) (.t 174), none⟩] []) (.kl [0, 1, 163, 164, 165, 166, 167, 168, 169, 170, 171, 172, 173, 174, 175, 176] (.seq (.reg [⟨some 177, .mov (.t 13), none⟩, ⟨some 10, .mov (.t 177), none⟩, ⟨some 11, .mov (.c (.bool false)), none⟩]) (.kl [13, 177] (.ret))))))))))))))))))))), [.tmp 10, .tmp 11]⟩
-- lp360_0 HEAD [0, 2, 3, 4, 10] | exit 0: [] | ret: []
/-- slices.siftDownCmpFunc[impl.Move] -/
def lb360_0 : C := .kl [11, 81] (.blk 1 (.seq (.reg [⟨some 13, .mov (.t 10), none⟩, ⟨some 14, .bin .mul (.c (.int .i64 2)) (.t 13), none⟩, ⟨some 15, .bin .add (.t 14) (.c (.int .i64 1)), none⟩, ⟨some 11, .mov (.t 15), none⟩]) (.kl [13, 14, 15] (.seq (.seq (.reg [⟨some 16, .mov (.t 11), none⟩, ⟨some 17, .mov (.t 2), none⟩, ⟨some 18, .bin .geq (.t 16) (.t 17), none⟩]) (.kl [16, 17] (.cond (.t 18) (.kl [0, 2, 3, 4, 10, 11, 18] (.exit 0)) (.skip)))) (.kl [18] (.seq (.seq (.drw [⟨some 19, .mov (.t 11), none⟩, ⟨some 20, .bin .add (.t 19) (.c (.int .i64 1)), none⟩, ⟨some 21, .mov (.t 2), none⟩, ⟨some 22, .bin .lss (.t 20) (.t 21), none⟩, ⟨some 23, .mov (.t 22), none⟩, ⟨some 24, .mov (.t 4), some (23, true)⟩, ⟨some 25, .mov (.t 0), some (23, true)⟩, ⟨some 26, .mov (.t 3), some (23, true)⟩, ⟨some 27, .mov (.t 11), some (23, true)⟩, ⟨some 28, .bin .add (.t 26) (.t 27), some (23, true)⟩, ⟨some 29, .iaddr 2 (.t 25) (.t 28), some (23, true)⟩, ⟨some 30, .load true 2 (.t 29), some (23, true)⟩, ⟨some 31, .mov (.t 0), some (23, true)⟩, ⟨some 32, .mov (.t 3), some (23, true)⟩, ⟨some 33, .mov (.t 11), some (23, true)⟩, ⟨some 34, .bin .add (.t 32) (.t 33), some (23, true)⟩, ⟨some 35, .bin .add (.t 34) (.c (.int .i64 1)), some (23, true)⟩, ⟨some 36, .iaddr 2 (.t 31) (.t 35), some (23, true)⟩, ⟨some 37, .load true 2 (.t 36), some (23, true)⟩, ⟨some 38, .callv (.t 24) [.t 30, .t 37], some (23, true)⟩, ⟨some 39, .bin .lss (.t 38) (.c (.int .i64 0)), some (23, true)⟩, ⟨some 40, .pick (.t 23) (.t 39) (.c (.bool false)), none⟩] []) (.kl [19, 20, 21, 22, 23, 24, 25, 26, 27, 28, 29, 30, 31, 32, 33, 34, 35, 36, 37, 38, 39] (.cond (.t 40) (.kl [40] (.reg [⟨some 41, .mov (.t 11), none⟩, ⟨some 42, .bin .add (.t 41) (.c (.int .i64 1)), none⟩, ⟨some 11, .mov (.t 42), none⟩])) (.skip)))) (.kl [40, 41, 42] (.seq (.seq (.drw [⟨some 43, .mov (.t 4), none⟩, ⟨some 44, .mov (.t 0), none⟩, ⟨some 45, .mov (.t 3), none⟩, ⟨some 46, .mov (.t 10), none⟩, ⟨some 47, .bin .add (.t 45) (.t 46), none⟩, ⟨some 48, .iaddr 2 (.t 44) (.t 47), none⟩, ⟨some 49, .load true 2 (.t 48), none⟩, ⟨some 50, .mov (.t 0), none⟩, ⟨some 51, .mov (.t 3), none⟩, ⟨some 52, .mov (.t 11), none⟩, ⟨some 53, .bin .add (.t 51) (.t 52), none⟩, ⟨some 54, .iaddr 2 (.t 50) (.t 53), none⟩, ⟨some 55, .load true 2 (.t 54), none⟩, ⟨some 56, .callv (.t 43) [.t 49, .t 55], none⟩, ⟨some 57, .bin .lss (.t 56) (.c (.int .i64 0)), none⟩, ⟨some 58, .un .not (.t 57), none⟩] []) (.kl [43, 44, 45, 46, 47, 48, 49, 50, 51, 52, 53, 54, 55, 56, 57] (.cond (.t 58) (.kl [0, 2, 3, 4, 10, 11, 58] (.ret)) (.skip)))) (.kl [58] (.seq (.drw [⟨some 59, .mov (.t 0), none⟩, ⟨some 60, .mov (.t 3), none⟩, ⟨some 61, .mov (.t 10), none⟩, ⟨some 62, .bin .add (.t 60) (.t 61), none⟩, ⟨some 63, .mov (.t 0), none⟩, ⟨some 64, .mov (.t 3), none⟩, ⟨some 65, .mov (.t 11), none⟩, ⟨some 66, .bin .add (.t 64) (.t 65), none⟩, ⟨some 67, .mov (.t 0), none⟩, ⟨some 68, .mov (.t 3), none⟩, ⟨some 69, .mov (.t 11), none⟩, ⟨some 70, .bin .add (.t 68) (.t 69), none⟩, ⟨some 71, .iaddr 2 (.t 67) (.t 70), none⟩, ⟨some 72, .load true 2 (.t 71), none⟩, ⟨some 73, .mov (.t 0), none⟩, ⟨some 74, .mov (.t 3), none⟩, ⟨some 75, .mov (.t 10), none⟩, ⟨some 76, .bin .add (.t 74) (.t 75), none⟩, ⟨some 77, .iaddr 2 (.t 73) (.t 76), none⟩, ⟨some 78, .load true 2 (.t 77), none⟩, ⟨some 79, .iaddr 2 (.t 59) (.t 62), none⟩, ⟨none, .store 2 (.t 79) (.t 72), none⟩, ⟨some 80, .iaddr 2 (.t 63) (.t 66), none⟩, ⟨none, .store 2 (.t 80) (.t 78), none⟩] []) (.kl [10, 59, 60, 61, 62, 63, 64, 65, 66, 67, 68, 69, 70, 71, 72, 73, 74, 75, 76, 77, 78, 79, 80] (.reg [⟨some 81, .mov (.t 11), none⟩, ⟨some 10, .mov (.t 81), none⟩]))))))))))))
def lp360_0 : C := lb360_0
def fi360 : FI := ⟨.seq (.reg [⟨some 12, .mov (.t 1), none⟩, ⟨some 10, .mov (.t 12), none⟩]) (.kl [1, 12] (.blk 0 (.loop lp360_0))), []⟩
/-- slices.nextPowerOfTwo -/
def fi288 : FI := ⟨.seq (.reg [⟨some 2, .mov (.c (.int .u64 0)), none⟩]) (.kl [2] (.seq (.reg [⟨some 3, .mov (.t 0), none⟩, ⟨some 4, .conv .u64 (.t 3), none⟩, ⟨some 5, .call 276 [.t 4], none⟩, ⟨some 6, .bin .shl (.c (.int .u64 1)) (.t 5), none⟩, ⟨some 2, .mov (.t 6), none⟩]) (.kl [0, 3, 4, 5, 6] (.ret)))), [.tmp 2]⟩
/-- slices.medianAdjacentCmpFunc[impl.Move] -/
def fi361 : FI := ⟨.seq (.reg [⟨some 8, .mov (.c (.int .i64 0)), none⟩]) (.kl [8] (.seq (.reg [⟨some 9, .mov (.t 0), none⟩, ⟨some 10, .mov (.t 1), none⟩, ⟨some 11, .bin .sub (.t 10) (.c (.int .i64 1)), none⟩, ⟨some 12, .mov (.t 1), none⟩, ⟨some 13, .mov (.t 1), none⟩, ⟨some 14, .bin .add (.t 13) (.c (.int .i64 1)), none⟩, ⟨some 15, .mov (.t 2), none⟩, ⟨some 16, .mov (.t 3), none⟩, ⟨some 17, .call 362 [.t 9, .t 11, .t 12, .t 14, .t 15, .t 16], none⟩, ⟨some 8, .mov (.t 17), none⟩]) (.kl [0, 1, 2, 3, 9, 10, 11, 12, 13, 14, 15, 16, 17] (.ret)))), [.tmp 8]⟩
/-- slices.medianCmpFunc[impl.Move] -/
def fi362 : FI := ⟨.seq (.reg [⟨some 12, .mov (.c (.int .i64 0)), none⟩]) (.kl [12] (.seq (.reg [⟨some 14, .mov (.t 0), none⟩, ⟨some 15, .mov (.t 1), none⟩, ⟨some 16, .mov (.t 2), none⟩, ⟨some 17, .mov (.t 4), none⟩, ⟨some 18, .mov (.t 5), none⟩, ⟨some 19, .call 363 [.t 14, .t 15, .t 16, .t 17, .t 18], none⟩, ⟨some 13, .mov (.t 19), none⟩, ⟨some 20, .prj 0 (.t 13), none⟩, ⟨some 21, .prj 1 (.t 13), none⟩, ⟨some 1, .mov (.t 20), none⟩, ⟨some 2, .mov (.t 21), none⟩]) (.kl [13, 14, 15, 16, 17, 18, 19, 20, 21] (.seq (.reg [⟨some 23, .mov (.t 0), none⟩, ⟨some 24, .mov (.t 2), none⟩, ⟨some 25, .mov (.t 3), none⟩, ⟨some 26, .mov (.t 4), none⟩, ⟨some 27, .mov (.t 5), none⟩, ⟨some 28, .call 363 [.t 23, .t 24, .t 25, .t 26, .t 27], none⟩, ⟨some 22, .mov (.t 28), none⟩, ⟨some 29, .prj 0 (.t 22), none⟩, ⟨some 30, .prj 1 (.t 22), none⟩, ⟨some 2, .mov (.t 29), none⟩, ⟨some 3, .mov (.t 30), none⟩]) (.kl [3, 22, 23, 24, 25, 26, 27, 28, 29, 30] (.seq (.reg [⟨some 32, .mov (.t 0), none⟩, ⟨some 33, .mov (.t 1), none⟩, ⟨some 34, .mov (.t 2), none⟩, ⟨some 35, .mov (.t 4), none⟩, ⟨some 36, .mov (.t 5), none⟩, ⟨some 37, .call 363 [.t 32, .t 33, .t 34, .t 35, .t 36], none⟩, ⟨some 31, .mov (.t 37), none⟩, ⟨some 38, .prj 0 (.t 31), none⟩, ⟨some 39, .prj 1 (.t 31), none⟩, ⟨some 1, .mov (.t 38), none⟩, ⟨some 2, .mov (.t 39), none⟩]) (.kl [0, 1, 4, 5, 31, 32, 33, 34, 35, 36, 37, 38, 39] (.seq (.reg [⟨some 40, .mov (.t 2), none⟩, ⟨some 12, .mov (.t 40), none⟩]) (.kl [2, 40] (.ret)))))))))), [.tmp 12]⟩
/-- slices.order2CmpFunc[impl.Move] -/
def fi363 : FI := ⟨.seq (.reg [⟨some 10, .mov (.c (.int .i64 0)), none⟩, ⟨some 11, .mov (.c (.int .i64 0)), none⟩]) (.kl [10, 11] (.seq (.seq (.drw [⟨some 12, .mov (.t 4), none⟩, ⟨some 13, .mov (.t 0), none⟩, ⟨some 14, .mov (.t 2), none⟩, ⟨some 15, .iaddr 2 (.t 13) (.t 14), none⟩, ⟨some 16, .load true 2 (.t 15), none⟩, ⟨some 17, .mov (.t 0), none⟩, ⟨some 18, .mov (.t 1), none⟩, ⟨some 19, .iaddr 2 (.t 17) (.t 18), none⟩, ⟨some 20, .load true 2 (.t 19), none⟩, ⟨some 21, .callv (.t 12) [.t 16, .t 20], none⟩, ⟨some 22, .bin .lss (.t 21) (.c (.int .i64 0)), none⟩] []) (.kl [0, 4, 12, 13, 14, 15, 16, 17, 18, 19, 20, 21] (.cond (.t 22) (.kl [22] (.seq (.reg [⟨some 23, .mov (.t 3), none⟩, ⟨some 24, .nck (.t 23), none⟩, ⟨some 25, .load false 1 (.t 24), none⟩, ⟨some 26, .bin .add (.t 25) (.c (.int .i64 1)), none⟩, ⟨some 27, .nck (.t 23), none⟩, ⟨none, .store 1 (.t 27) (.t 26), none⟩]) (.kl [3, 23, 24, 25, 26, 27] (.seq (.reg [⟨some 28, .mov (.t 2), none⟩, ⟨some 29, .mov (.t 1), none⟩, ⟨some 10, .mov (.t 28), none⟩, ⟨some 11, .mov (.t 29), none⟩]) (.kl [1, 2, 28, 29] (.ret)))))) (.skip)))) (.kl [3, 22] (.seq (.reg [⟨some 30, .mov (.t 1), none⟩, ⟨some 31, .mov (.t 2), none⟩, ⟨some 10, .mov (.t 30), none⟩, ⟨some 11, .mov (.t 31), none⟩]) (.kl [1, 2, 30, 31] (.ret)))))), [.tmp 10, .tmp 11]⟩

def tab : List (Nat × FI) := [(364, fi364), (369, fi369), (365, fi365), (367, fi367), (366, fi366), (368, fi368), (227, fi227), (370, fi370), (336, fi336), (328, fi328), (371, fi371), (325, fi325), (330, fi330), (331, fi331), (346, fi346), (240, fi240), (335, fi335), (347, fi347), (337, fi337), (77, fi77), (104, fi104), (333, fi333), (334, fi334), (340, fi340), (339, fi339), (82, fi82), (68, fi68), (351, fi351), (60, fi60), (332, fi332), (345, fi345), (206, fi206), (108, fi108), (184, fi184), (74, fi74), (61, fi61), (133, fi133), (103, fi103), (342, fi342), (109, fi109), (344, fi344), (350, fi350), (306, fi306), (348, fi348), (349, fi349), (307, fi307), (352, fi352), (353, fi353), (354, fi354), (355, fi355), (356, fi356), (357, fi357), (358, fi358), (359, fi359), (360, fi360), (288, fi288), (361, fi361), (362, fi362), (363, fi363)]
def T (f : Nat) : Option FI := (tab.find? fun x => x.1 == f).map (·.2)
theorem T364 : T 364 = some fi364 := rfl
theorem T369 : T 369 = some fi369 := rfl
theorem T365 : T 365 = some fi365 := rfl
theorem T367 : T 367 = some fi367 := rfl
theorem T366 : T 366 = some fi366 := rfl
theorem T368 : T 368 = some fi368 := rfl
theorem T227 : T 227 = some fi227 := rfl
theorem T370 : T 370 = some fi370 := rfl
theorem T336 : T 336 = some fi336 := rfl
theorem T328 : T 328 = some fi328 := rfl
theorem T371 : T 371 = some fi371 := rfl
theorem T325 : T 325 = some fi325 := rfl
theorem T330 : T 330 = some fi330 := rfl
theorem T331 : T 331 = some fi331 := rfl
theorem T346 : T 346 = some fi346 := rfl
theorem T240 : T 240 = some fi240 := rfl
theorem T335 : T 335 = some fi335 := rfl
theorem T347 : T 347 = some fi347 := rfl
theorem T337 : T 337 = some fi337 := rfl
theorem T77 : T 77 = some fi77 := rfl
theorem T104 : T 104 = some fi104 := rfl
theorem T333 : T 333 = some fi333 := rfl
theorem T334 : T 334 = some fi334 := rfl
theorem T340 : T 340 = some fi340 := rfl
theorem T339 : T 339 = some fi339 := rfl
theorem T82 : T 82 = some fi82 := rfl
theorem T68 : T 68 = some fi68 := rfl
theorem T351 : T 351 = some fi351 := rfl
theorem T60 : T 60 = some fi60 := rfl
theorem T332 : T 332 = some fi332 := rfl
theorem T345 : T 345 = some fi345 := rfl
theorem T206 : T 206 = some fi206 := rfl
theorem T108 : T 108 = some fi108 := rfl
theorem T184 : T 184 = some fi184 := rfl
theorem T74 : T 74 = some fi74 := rfl
theorem T61 : T 61 = some fi61 := rfl
theorem T133 : T 133 = some fi133 := rfl
theorem T103 : T 103 = some fi103 := rfl
theorem T342 : T 342 = some fi342 := rfl
theorem T109 : T 109 = some fi109 := rfl
theorem T344 : T 344 = some fi344 := rfl
theorem T350 : T 350 = some fi350 := rfl
theorem T306 : T 306 = some fi306 := rfl
theorem T348 : T 348 = some fi348 := rfl
theorem T349 : T 349 = some fi349 := rfl
theorem T307 : T 307 = some fi307 := rfl
theorem T352 : T 352 = some fi352 := rfl
theorem T353 : T 353 = some fi353 := rfl
theorem T354 : T 354 = some fi354 := rfl
theorem T355 : T 355 = some fi355 := rfl
theorem T356 : T 356 = some fi356 := rfl
theorem T357 : T 357 = some fi357 := rfl
theorem T358 : T 358 = some fi358 := rfl
theorem T359 : T 359 = some fi359 := rfl
theorem T360 : T 360 = some fi360 := rfl
theorem T288 : T 288 = some fi288 := rfl
theorem T361 : T 361 = some fi361 := rfl
theorem T362 : T 362 = some fi362 := rfl
theorem T363 : T 363 = some fi363 := rfl
end Go.Proofs.YtgdlaopjabjkbaaGreatDoor.Ab
-- EXT strings.Split
-- EXT strings.Index
-- EXT strings.ReplaceAll
-- EXT strings.Join
-- EXT strings.Trim
-- EXT slices.SortFunc[[]impl.Move,impl.Move]
-- EXT strings.Count
-- EXT strings.IndexByte
-- XF main.main|0|
-- XF gosem.cut|1|
-- XF spec.PlayOnBoard|10|
-- XF slices.siftDownCmpFunc[impl.Move]|100|38
-- XF slices.nextPowerOfTwo|101|
-- XF (*slices.xorshift).Next|102|
-- XF slices.medianAdjacentCmpFunc[impl.Move]|103|38
-- XF slices.medianCmpFunc[impl.Move]|104|38
-- XF strings.IndexByte|105|
-- XF unicode/utf8.ValidRune|106|
-- XF slices.order2CmpFunc[impl.Move]|107|38
-- XF (runtime.boundsError).Error|108|
-- XF (runtime.boundsError).RuntimeError|109|
-- XF impl.PlayOnBoard|11|
-- XF (runtime.errorString).Error|110|
-- XF (runtime.errorString).RuntimeError|111|
-- XF (runtime.plainError).Error|112|
-- XF (runtime.plainError).RuntimeError|113|
-- XF (runtime.errorAddressString).Error|114|
-- XF (runtime.errorAddressString).RuntimeError|115|
-- XF (*runtime.TypeAssertionError).Error|116|
-- XF (*runtime.TypeAssertionError).RuntimeError|117|
-- XF (*runtime.PanicNilError).Error|118|
-- XF (*runtime.PanicNilError).RuntimeError|119|
-- XF spec.boRows|12|
-- XF (*internal/abi.Type).Align|120|
-- XF (internal/runtime/maps.unhashableTypeError).Error|121|
-- XF (internal/runtime/maps.unhashableTypeError).RuntimeError|122|
-- XF (impl.Move).isJump|123|
-- XF (*strings.Builder).Reset|124|
-- XF (internal/abi.Kind).String|125|
-- XF var's door: unicode/utf8.acceptRanges is laid by its own initialiser, plain data (look 11)|128|
-- XF var's door: unicode/utf8.first is laid by its text alone (pinned 1)|129|
-- XF spec.boPlay|13|
-- XF gosem.cut.vars|130|
-- XF laws.toMove|14|
-- XF impl.IsBoard|15|
-- XF impl.boardOf|16|
-- XF (impl.board).play|17|
-- XF laws.eqMove|18|
-- XF spec.boText|19|
-- XF gosem.cut.init|2|
-- XF (impl.board).text|20|
-- XF spec.l1Split|21|
-- XF spec.l1In|22|
-- XF spec.liGood|23|
-- XF spec.boCan|24|
-- XF spec.boMake|25|
-- XF strings.Split|26|
-- XF slices.ContainsFunc[[]string,string]|27|32, 9
-- XF impl.IsBoard$1|28|
-- XF impl.isLineOf|29|
-- XF laws.FnExactBoardMoveThatFails|3|
-- XF strings.Index|30|
-- XF strings.ReplaceAll|31|
-- XF impl.played|32|
-- XF (impl.board).play$1|33|
-- XF slices.Contains[[]impl.Move,impl.Move]|34|26, 38
-- XF (impl.board).moves|35|
-- XF strings.Join|36|
-- XF spec.boAt|37|
-- XF spec.l1OwnS|38|
-- XF spec.liPut|39|
-- XF laws.FnExactPlayOnBoard|4|
-- XF strings.genSplit|40|
-- XF slices.IndexFunc[[]string,string]|41|32, 9
-- XF impl.within|42|
-- XF strings.Trim|43|
-- XF internal/stringslite.Index|44|
-- XF strings.Replace|45|
-- XF impl.made|46|
-- XF slices.Index[[]impl.Move,impl.Move]|47|26, 38
-- XF impl.stepOf|48|
-- XF (impl.board).sign|49|
-- XF laws.szMoveS|5|
-- XF impl.other|50|
-- XF slices.SortFunc[[]impl.Move,impl.Move]|51|26, 38
-- XF (impl.board).moves$1|52|
-- XF cmp.Or[int]|53|3
-- XF cmp.Compare[int]|54|3
-- XF (*strings.Builder).Grow|55|
-- XF (*strings.Builder).WriteString|56|
-- XF (*strings.Builder).String|57|
-- XF strings.explode|58|
-- XF strings.Count|59|
-- XF spec.BoardMoveThatFails|6|
-- XF strings.trimLeftByte|60|
-- XF strings.trimRightByte|61|
-- XF strings.makeASCIISet|62|
-- XF strings.trimLeftASCII|63|
-- XF strings.trimRightASCII|64|
-- XF strings.trimLeftUnicode|65|
-- XF strings.trimRightUnicode|66|
-- XF internal/stringslite.IndexByte|67|
-- XF internal/bytealg.IndexString|68|
-- XF internal/bytealg.Cutover|69|
-- XF laws.toMoveS|7|
-- XF internal/bytealg.IndexRabinKarp[string]|70|9
-- XF unicode/utf8.DecodeRuneInString|71|
-- XF (impl.board).high|72|
-- XF slices.pdqsortCmpFunc[impl.Move]|73|38
-- XF math/bits.Len|74|
-- XF cmp.isNaN[int]|75|3
-- XF (*strings.Builder).copyCheck|76|
-- XF (*strings.Builder).grow|77|
-- XF unicode/utf8.RuneCountInString|78|
-- XF internal/bytealg.CountString|79|
-- XF impl.BoardMoveThatFails|8|
-- XF (*strings.asciiSet).contains|80|
-- XF strings.ContainsRune|81|
-- XF unicode/utf8.DecodeLastRuneInString|82|
-- XF internal/bytealg.IndexByteString|83|
-- XF internal/bytealg.hashStr[string]|84|9
-- XF unicode/utf8.decodeRuneInStringSlow|85|
-- XF slices.insertionSortCmpFunc[impl.Move]|86|38
-- XF slices.heapSortCmpFunc[impl.Move]|87|38
-- XF slices.breakPatternsCmpFunc[impl.Move]|88|38
-- XF slices.choosePivotCmpFunc[impl.Move]|89|38
-- XF laws.eqMoveS|9|
-- XF slices.reverseRangeCmpFunc[impl.Move]|90|38
-- XF slices.partitionEqualCmpFunc[impl.Move]|92|38
-- XF slices.partitionCmpFunc[impl.Move]|93|38
-- XF math/bits.Len32|94|
-- XF math/bits.Len64|95|
-- XF internal/abi.NoEscape|96|
-- XF internal/bytealg.MakeNoZero|97|
-- XF strings.IndexRune|98|
-- XF unicode/utf8.RuneStart|99|

/- RULES for reckoning with the evaluator: fuel is bounded by no one. -/
namespace Go.Proofs.YtgdlaopjabjkbaaGreatDoor.Ab
open Go

def CF.le (a b : CF) : Prop := ∀ f xs h r, a f xs h = some r → b f xs h = some r
theorem CF.le_refl (a : CF) : a.le a := fun _ _ _ _ h => h

def AOp.isCall : AOp → Bool
  | .call .. | .callv .. => true
  | _ => false

section
variable {cf cf' : CF} {ρ : Opd → AV} {h : AH} {e : Env}

theorem evOp_mono (hle : cf.le cf') {i : AOp} {x : AV × AH} (hev : evOp cf ρ h i = some x) : evOp cf' ρ h i = some x := by
  cases i <;> first
    | exact hev
    | (simp only [evOp] at hev ⊢; exact hle _ _ _ _ hev)
    | (simp only [evOp] at hev ⊢
       split at hev
       · exact hle _ _ _ _ hev
       · cases hev)
theorem evOp_any {i : AOp} (hi : i.isCall = false) (cf cf' : CF) : evOp cf ρ h i = evOp cf' ρ h i := by
  cases i <;> first
    | rfl
    | (simp [AOp.isCall] at hi; done)

theorem evI_mono (hle : cf.le cf') {i : I} {x : Env × AH} (hev : evI cf i e h = some x) : evI cf' i e h = some x := by
  have key : ∀ x, (evOp cf (env e) h i.op).map (fun (v, h') => (put e i.dst v, h')) = some x → (evOp cf' (env e) h i.op).map (fun (v, h') => (put e i.dst v, h')) = some x := by
    intro x hx
    simp only [Option.map_eq_some_iff] at hx ⊢
    obtain ⟨y, hy, he⟩ := hx
    exact ⟨y, evOp_mono hle hy, he⟩
  unfold evI at hev ⊢
  split at hev
  · exact key _ hev
  · split at hev
    · split at hev
      · rename_i h1; rw [if_pos h1]; exact key _ hev
      · rename_i h1; rw [if_neg h1]; exact hev
    · exact hev
    · cases hev

theorem evR_mono (hle : cf.le cf') : ∀ {is : List I} {e : Env} {h : AH} {x : Env × AH}, evR cf is e h = some x → evR cf' is e h = some x
  | [], _, _, _, hev => hev
  | i :: is, e, h, x, hev => by
    simp only [evR] at hev ⊢
    split at hev
    · rename_i e1 h1 h2
      rw [evI_mono hle h2]
      exact evR_mono hle hev
    · cases hev

theorem state_some : ∀ {is : List I} {e : Env} {h : AH} {x : Env × AH}, evR cf is e h = some x → ∀ i, ∃ s, stateAt cf is i e h = some s
  | [], e, h, x, hev, i => ⟨(e, h), by simp [stateAt, evR]⟩
  | j :: is, e, h, x, hev, i => by
    cases i with
    | zero => exact ⟨(e, h), by simp [stateAt, evR]⟩
    | succ i =>
      simp only [evR] at hev
      split at hev
      · rename_i e1 h1 h2
        obtain ⟨s, hs⟩ := state_some hev i
        refine ⟨s, ?_⟩
        simp only [stateAt, List.take_succ_cons, evR, h2]
        exact hs
      · cases hev

theorem evDraw_mono (hle : cf.le cf') {is : List I} {ps : List (Nat × Nat)} {x : Env × AH} (hev : evDraw cf is ps e h = some x) : evDraw cf' is ps e h = some x := by
  unfold evDraw at hev ⊢
  split at hev
  · rename_i hst
    rw [if_pos]
    · exact evR_mono hle hev
    · intro p hp o e1 h1 e2 h2 e3 h3 k0 k1 k2 k3
      obtain ⟨s1, g1⟩ := state_some hev p.1
      obtain ⟨s2, g2⟩ := state_some hev p.2
      obtain ⟨s3, g3⟩ := state_some hev (p.2 + 1)
      have m1 := evR_mono hle g1
      have m2 := evR_mono hle g2
      have m3 := evR_mono hle g3
      unfold stateAt at k1 k2 k3
      rw [m1] at k1; rw [m2] at k2; rw [m3] at k3
      cases k1; cases k2; cases k3
      exact hst p hp o e1 h1 e2 h2 e3 h3 k0 g1 g2 g3
  · cases hev

theorem evLoop_mono {s s' : Env → AH → Option (X × Env × AH)} (hs : ∀ e h x, s e h = some x → s' e h = some x) : ∀ {n n' : Nat}, n ≤ n' → ∀ {e : Env} {h : AH} {x}, evLoop s n e h = some x → evLoop s' n' e h = some x
  | 0, _, _, _, _, _, hev => by simp [evLoop] at hev
  | n + 1, 0, hn, _, _, _, _ => by omega
  | n + 1, n' + 1, hn, e, h, x, hev => by
    simp only [evLoop] at hev ⊢
    cases hst : s e h with
    | none => rw [hst] at hev; simp at hev
    | some y =>
      rw [hst] at hev
      rw [hs _ _ _ hst]
      obtain ⟨x1, e1, h1⟩ := y
      cases x1 with
      | normal => exact evLoop_mono hs (by omega) hev
      | exit i => exact hev
      | ret => exact hev

theorem evC_mono (hle : cf.le cf') {n n' : Nat} (hn : n ≤ n') : ∀ (c : C) {e : Env} {h : AH} {x}, evC cf n c e h = some x → evC cf' n' c e h = some x := by
  intro c
  induction c with
  | skip => intro e h x hev; exact hev
  | reg is =>
    intro e h x hev
    simp only [evC, Option.map_eq_some_iff] at hev ⊢
    obtain ⟨y, hy, he⟩ := hev
    exact ⟨y, evR_mono hle hy, he⟩
  | drw is ps =>
    intro e h x hev
    simp only [evC, Option.map_eq_some_iff] at hev ⊢
    obtain ⟨y, hy, he⟩ := hev
    exact ⟨y, evDraw_mono hle hy, he⟩
  | kl ts c ih => intro e h x hev; simp only [evC] at hev ⊢; exact ih hev
  | seq a b iha ihb =>
    intro e h x hev
    simp only [evC] at hev ⊢
    cases ha : evC cf n a e h with
    | none => rw [ha] at hev; simp at hev
    | some y =>
      rw [ha] at hev
      rw [iha ha]
      obtain ⟨x1, e1, h1⟩ := y
      cases x1 with
      | normal => exact ihb hev
      | exit i => exact hev
      | ret => exact hev
  | cond y a b iha ihb =>
    intro e h x hev
    simp only [evC] at hev ⊢
    split at hev
    · rename_i t ht
      split at hev
      · rename_i h1; rw [if_pos h1]; exact iha hev
      · rename_i h1; rw [if_neg h1]; exact ihb hev
    · cases hev
  | blk id a ih =>
    intro e h x hev
    simp only [evC] at hev ⊢
    cases ha : evC cf n a e h with
    | none => rw [ha] at hev; simp at hev
    | some y =>
      rw [ha] at hev
      rw [ih ha]
      exact hev
  | loop a ih =>
    intro e h x hev
    simp only [evC] at hev ⊢
    exact evLoop_mono (fun _ _ _ hh => ih hh) hn hev
  | exit i => intro e h x hev; exact hev
  | ret => intro e h x hev; exact hev
  | bad => intro e h x hev; simp [evC] at hev
end

def EMono (E : Ext) : Prop := ∀ f G, E f = some G → ∀ cf cf' : CF, cf.le cf' → ∀ xs h r, G cf xs h = some r → G cf' xs h = some r

theorem evF_mono {T : Nat → Option FI} {E : Ext} (hE : EMono E) : ∀ {n n' : Nat}, n ≤ n' → (evF T E n).le (evF T E n')
  | 0, _, _ => by intro f xs h r hev; simp [evF] at hev
  | n + 1, 0, hn => by omega
  | n + 1, n' + 1, hn => by
    intro f xs h r hev
    have ih := evF_mono (T := T) hE (show n ≤ n' by omega)
    simp only [evF] at hev ⊢
    split at hev
    · rename_i G hG
      exact hE f G hG _ _ ih _ _ _ hev
    · split at hev
      · rename_i fi hfi
        cases hc : evC (evF T E n) n fi.body (Env.init 0 xs) h with
        | none => rw [hc] at hev; cases hev
        | some y => rw [hc] at hev; rw [evC_mono ih (by omega) _ hc]; exact hev
      · cases hev

/-! ### The rules -/
section
variable (T : Nat → Option FI) (E : Ext)

def Spec (f : Nat) (xs : List AV) (h : AH) (post : AV → AH → Prop) : Prop := ∃ n r h', evF T E n f xs h = some (r, h') ∧ post r h'
def WC (c : C) (e : Env) (h : AH) (Q : X → Env → AH → Prop) : Prop := ∃ n x e' h', evC (evF T E n) n c e h = some (x, e', h') ∧ Q x e' h'
def WR (is : List I) (e : Env) (h : AH) (Q : Env → AH → Prop) : Prop := ∃ n e' h', evR (evF T E n) is e h = some (e', h') ∧ Q e' h'
def WO {α : Type} (o : Option (α × AH)) (K : α → AH → Prop) : Prop := match o with
  | some (v, h) => K v h
  | none => False
end
@[simp] theorem WO_some {α : Type} {v : α} {h : AH} {K : α → AH → Prop} : WO (some (v, h)) K ↔ K v h := Iff.rfl
@[simp] theorem WO_none {α : Type} {K : α → AH → Prop} : WO none K ↔ False := Iff.rfl
theorem WO_iff {α : Type} {o : Option (α × AH)} {K : α → AH → Prop} : WO o K ↔ ∃ v h, o = some (v, h) ∧ K v h := by
  cases o with
  | none => simp
  | some x =>
    obtain ⟨v, h⟩ := x
    exact ⟨fun hk => ⟨v, h, rfl, hk⟩, fun ⟨_, _, he, hk⟩ => by cases he; exact hk⟩

section
variable {T : Nat → Option FI} {E : Ext} (hE : EMono E) {e : Env} {h : AH} {Q : Env → AH → Prop} {R : X → Env → AH → Prop}
include hE

omit hE in
theorem WR_nil : WR T E [] e h Q ↔ Q e h := by
  constructor
  · rintro ⟨n, e', h', hev, hq⟩
    simp only [evR, Option.some.injEq, Prod.mk.injEq] at hev
    obtain ⟨rfl, rfl⟩ := hev
    exact hq
  · intro hq; exact ⟨0, e, h, rfl, hq⟩

omit hE in
/-- An operation that calls no one. -/
theorem WR_op {d : Option Nat} {op : AOp} {is : List I} (hi : op.isCall = false) : WR T E (⟨d, op, none⟩ :: is) e h Q ↔ WO (evOp noCall (env e) h op) fun v h' => WR T E is (put e d v) h' Q := by
  rw [WO_iff]
  constructor
  · rintro ⟨n, e', h', hev, hq⟩
    simp only [evR, evI] at hev
    rw [evOp_any hi (evF T E n) noCall] at hev
    cases ho : evOp noCall (env e) h op with
    | none => rw [ho] at hev; simp at hev
    | some y =>
      rw [ho] at hev
      obtain ⟨v, h1⟩ := y
      exact ⟨v, h1, rfl, n, e', h', hev, hq⟩
  · rintro ⟨v, h1, ho, n, e', h', hev, hq⟩
    refine ⟨n, e', h', ?_, hq⟩
    simp only [evR, evI]
    rw [evOp_any hi (evF T E n) noCall, ho]
    exact hev

theorem WR_call {d : Option Nat} {f : Nat} {xs : List Opd} {is : List I} : WR T E (⟨d, .call f xs, none⟩ :: is) e h Q ↔ Spec T E f (xs.map (env e)) h fun v h' => WR T E is (put e d v) h' Q := by
  constructor
  · rintro ⟨n, e', h', hev, hq⟩
    simp only [evR, evI, evOp] at hev
    cases ho : evF T E n f (xs.map (env e)) h with
    | none => rw [ho] at hev; simp at hev
    | some y =>
      rw [ho] at hev
      obtain ⟨v, h1⟩ := y
      exact ⟨n, v, h1, ho, n, e', h', hev, hq⟩
  · rintro ⟨n, v, h1, ho, n', e', h', hev, hq⟩
    refine ⟨max n n', e', h', ?_, hq⟩
    simp only [evR, evI, evOp]
    rw [evF_mono hE (Nat.le_max_left n n') _ _ _ _ ho]
    exact evR_mono (evF_mono hE (Nat.le_max_right n n')) hev

theorem WR_callv {d : Option Nat} {x : Opd} {xs : List Opd} {is : List I} {f : Nat} {cap : List AV} (hx : env e x = .fn f cap) : WR T E (⟨d, .callv x xs, none⟩ :: is) e h Q ↔ Spec T E f (xs.map (env e) ++ cap) h fun v h' => WR T E is (put e d v) h' Q := by
  constructor
  · rintro ⟨n, e', h', hev, hq⟩
    simp only [evR, evI, evOp, hx] at hev
    cases ho : evF T E n f (xs.map (env e) ++ cap) h with
    | none => rw [ho] at hev; simp at hev
    | some y =>
      rw [ho] at hev
      obtain ⟨v, h1⟩ := y
      exact ⟨n, v, h1, ho, n, e', h', hev, hq⟩
  · rintro ⟨n, v, h1, ho, n', e', h', hev, hq⟩
    refine ⟨max n n', e', h', ?_, hq⟩
    simp only [evR, evI, evOp, hx]
    rw [evF_mono hE (Nat.le_max_left n n') _ _ _ _ ho]
    exact evR_mono (evF_mono hE (Nat.le_max_right n n')) hev

omit hE in
/-- A guard that is heard, one that is not. -/
theorem WR_grd {d : Option Nat} {op : AOp} {is : List I} {t : Nat} {want b : Bool} (hb : e.get t = .bool b) : WR T E (⟨d, op, some (t, want)⟩ :: is) e h Q ↔ if b = want then WR T E (⟨d, op, none⟩ :: is) e h Q else WR T E is (put e d (.tup [])) h Q := by
  have key : ∀ n, evR (evF T E n) (⟨d, op, some (t, want)⟩ :: is) e h = if b = want then evR (evF T E n) (⟨d, op, none⟩ :: is) e h else evR (evF T E n) is (put e d (.tup [])) h := by
    intro n
    simp only [evR, evI, hb]
    by_cases hbw : b = want <;> simp [hbw]
  unfold WR
  simp only [key]
  by_cases hbw : b = want <;> simp [hbw]

omit hE in
/-- A guard on what was not done. -/
theorem WR_grd0 {d : Option Nat} {op : AOp} {is : List I} {t : Nat} {want : Bool} (hb : e.get t = .tup []) : WR T E (⟨d, op, some (t, want)⟩ :: is) e h Q ↔ WR T E is (put e d (.tup [])) h Q := by
  have key : ∀ n, evR (evF T E n) (⟨d, op, some (t, want)⟩ :: is) e h = evR (evF T E n) is (put e d (.tup [])) h := by
    intro n
    simp only [evR, evI, hb]
  unfold WR
  simp only [key]

omit hE in
theorem WC_reg {is : List I} : WC T E (.reg is) e h R ↔ WR T E is e h (R .normal) := by
  constructor
  · rintro ⟨n, x, e', h', hev, hq⟩
    simp only [evC, Option.map_eq_some_iff, Prod.mk.injEq] at hev
    obtain ⟨⟨e1, h1⟩, hev, rfl, rfl, rfl⟩ := hev
    exact ⟨n, e1, h1, hev, hq⟩
  · rintro ⟨n, e', h', hev, hq⟩
    exact ⟨n, .normal, e', h', by simp only [evC, hev]; rfl, hq⟩
omit hE in
theorem WC_skip : WC T E .skip e h R ↔ R .normal e h :=
  ⟨by rintro ⟨n, x, e', h', hev, hq⟩; simp only [evC, Option.some.injEq, Prod.mk.injEq] at hev; obtain ⟨rfl, rfl, rfl⟩ := hev; exact hq, fun hq => ⟨0, _, _, _, rfl, hq⟩⟩
omit hE in
theorem WC_ret : WC T E .ret e h R ↔ R .ret e h :=
  ⟨by rintro ⟨n, x, e', h', hev, hq⟩; simp only [evC, Option.some.injEq, Prod.mk.injEq] at hev; obtain ⟨rfl, rfl, rfl⟩ := hev; exact hq, fun hq => ⟨0, _, _, _, rfl, hq⟩⟩
omit hE in
theorem WC_exit {i : Nat} : WC T E (.exit i) e h R ↔ R (.exit i) e h :=
  ⟨by rintro ⟨n, x, e', h', hev, hq⟩; simp only [evC, Option.some.injEq, Prod.mk.injEq] at hev; obtain ⟨rfl, rfl, rfl⟩ := hev; exact hq, fun hq => ⟨0, _, _, _, rfl, hq⟩⟩
omit hE in
theorem WC_kl {ts : List Nat} {c : C} : WC T E (.kl ts c) e h R ↔ WC T E c (e.dels ts) h R := by
  unfold WC; simp only [evC]

/-- Behind a first piece: go on, or out. -/
def then' (K : Env → AH → Prop) (R : X → Env → AH → Prop) : X → Env → AH → Prop
  | .normal, e, h => K e h
  | x, e, h => R x e h
def inBlk (i : Nat) (R : X → Env → AH → Prop) : X → Env → AH → Prop
  | .exit j, e, h => if j = i then R .normal e h else R (.exit j) e h
  | x, e, h => R x e h
omit hE in
@[simp] theorem then_normal {K : Env → AH → Prop} {R : X → Env → AH → Prop} : then' K R .normal e h = K e h := rfl
omit hE in
@[simp] theorem then_exit {K : Env → AH → Prop} {R : X → Env → AH → Prop} {i : Nat} : then' K R (.exit i) e h = R (.exit i) e h := rfl
omit hE in
@[simp] theorem then_ret {K : Env → AH → Prop} {R : X → Env → AH → Prop} : then' K R .ret e h = R .ret e h := rfl
omit hE in
@[simp] theorem inBlk_normal {i : Nat} {R : X → Env → AH → Prop} : inBlk i R .normal e h = R .normal e h := rfl
omit hE in
@[simp] theorem inBlk_ret {i : Nat} {R : X → Env → AH → Prop} : inBlk i R .ret e h = R .ret e h := rfl
omit hE in
@[simp] theorem inBlk_exit {i j : Nat} {R : X → Env → AH → Prop} : inBlk i R (.exit j) e h = if j = i then R .normal e h else R (.exit j) e h := rfl

theorem WC_seq {a b : C} : WC T E (.seq a b) e h R ↔ WC T E a e h (then' (fun e' h' => WC T E b e' h' R) R) := by
  constructor
  · rintro ⟨n, x, e', h', hev, hq⟩
    simp only [evC] at hev
    cases ha : evC (evF T E n) n a e h with
    | none => rw [ha] at hev; simp at hev
    | some y =>
      rw [ha] at hev
      obtain ⟨x1, e1, h1⟩ := y
      refine ⟨n, x1, e1, h1, ha, ?_⟩
      cases x1 with
      | normal => exact ⟨n, x, e', h', hev, hq⟩
      | exit i => cases hev; exact hq
      | ret => cases hev; exact hq
  · rintro ⟨n, x1, e1, h1, ha, hq⟩
    cases x1 with
    | normal =>
      obtain ⟨n', x, e', h', hev, hq⟩ := hq
      refine ⟨max n n', x, e', h', ?_, hq⟩
      simp only [evC]
      rw [evC_mono (evF_mono hE (Nat.le_max_left n n')) (Nat.le_max_left n n') _ ha]
      exact evC_mono (evF_mono hE (Nat.le_max_right n n')) (Nat.le_max_right n n') _ hev
    | exit i => exact ⟨n, _, e1, h1, by simp only [evC, ha], hq⟩
    | ret => exact ⟨n, _, e1, h1, by simp only [evC, ha], hq⟩

omit hE in
theorem WC_cond {x : Opd} {a b : C} {t : Bool} (ht : env e x = .bool t) : WC T E (.cond x a b) e h R ↔ if t then WC T E a e h R else WC T E b e h R := by
  unfold WC
  simp only [evC, ht]
  cases t <;> simp

omit hE in
theorem WC_blk {i : Nat} {c : C} : WC T E (.blk i c) e h R ↔ WC T E c e h (inBlk i R) := by
  constructor
  · rintro ⟨n, x, e', h', hev, hq⟩
    simp only [evC] at hev
    cases ha : evC (evF T E n) n c e h with
    | none => rw [ha] at hev; simp at hev
    | some y =>
      rw [ha] at hev
      obtain ⟨x1, e1, h1⟩ := y
      refine ⟨n, x1, e1, h1, ha, ?_⟩
      cases x1 with
      | normal => cases hev; exact hq
      | exit j =>
        simp only at hev
        simp only [inBlk]
        split at hev
        · rename_i hj; rw [if_pos hj]; cases hev; exact hq
        · rename_i hj; rw [if_neg hj]; cases hev; exact hq
      | ret => cases hev; exact hq
  · rintro ⟨n, x1, e1, h1, ha, hq⟩
    cases x1 with
    | normal => exact ⟨n, _, e1, h1, by simp only [evC, ha], hq⟩
    | exit j =>
      simp only [inBlk] at hq
      by_cases hj : j = i
      · rw [if_pos hj] at hq
        exact ⟨n, _, e1, h1, by simp only [evC, ha, if_pos hj], hq⟩
      · rw [if_neg hj] at hq
        exact ⟨n, _, e1, h1, by simp only [evC, ha, if_neg hj], hq⟩
    | ret => exact ⟨n, _, e1, h1, by simp only [evC, ha], hq⟩

/-- A loop, one round unrolled. -/
theorem WC_loop {c : C} : WC T E (.loop c) e h R ↔ WC T E c e h (then' (fun e' h' => WC T E (.loop c) e' h' R) R) := by
  constructor
  · rintro ⟨n, x, e', h', hev, hq⟩
    simp only [evC] at hev
    cases n with
    | zero => simp [evLoop] at hev
    | succ n =>
      simp only [evLoop] at hev
      cases ha : evC (evF T E (n + 1)) (n + 1) c e h with
      | none => rw [ha] at hev; simp at hev
      | some y =>
        rw [ha] at hev
        obtain ⟨x1, e1, h1⟩ := y
        refine ⟨n + 1, x1, e1, h1, ha, ?_⟩
        cases x1 with
        | normal =>
          refine ⟨n + 1, x, e', h', ?_, hq⟩
          simp only [evC]
          exact evLoop_mono (fun _ _ _ hh => hh) (Nat.le_succ n) hev
        | exit i => cases hev; exact hq
        | ret => cases hev; exact hq
  · rintro ⟨n, x1, e1, h1, ha, hq⟩
    cases x1 with
    | normal =>
      obtain ⟨n', x, e', h', hev, hq⟩ := hq
      simp only [evC] at hev
      refine ⟨max n n' + 1, x, e', h', ?_, hq⟩
      simp only [evC, evLoop]
      rw [evC_mono (evF_mono hE (show n ≤ max n n' + 1 by omega)) (show n ≤ max n n' + 1 by omega) _ ha]
      exact evLoop_mono (fun _ _ _ hh => evC_mono (evF_mono hE (show n' ≤ max n n' + 1 by omega)) (show n' ≤ max n n' + 1 by omega) _ hh) (show n' ≤ max n n' by omega) hev
    | exit i =>
      refine ⟨n + 1, _, e1, h1, ?_, hq⟩
      simp only [evC, evLoop]
      rw [evC_mono (evF_mono hE (Nat.le_succ n)) (Nat.le_succ n) _ ha]
    | ret =>
      refine ⟨n + 1, _, e1, h1, ?_, hq⟩
      simp only [evC, evLoop]
      rw [evC_mono (evF_mono hE (Nat.le_succ n)) (Nat.le_succ n) _ ha]

omit hE in
/-- Into a function of the table. -/
theorem Spec_of {f : Nat} {xs : List AV} {post : AV → AH → Prop} {fi : FI} (hEf : E f = none) (hT : T f = some fi)
    (hw : WC T E fi.body (Env.init 0 xs) h fun x e' h' => (x = .normal ∨ x = .ret) ∧ ∃ r, resV e' h' fi.res = some r ∧ post r h') : Spec T E f xs h post := by
  obtain ⟨n, x, e', h', hev, hx, r, hr, hq⟩ := hw
  refine ⟨n + 1, r, h', ?_, hq⟩
  simp only [evF, hEf, hT, hev]
  rcases hx with rfl | rfl <;> simp [hr]
omit hE in
theorem Spec_ext {f : Nat} {xs : List AV} {post : AV → AH → Prop} {G : CF → List AV → AH → Option (AV × AH)} (hEf : E f = some G) {r : AV} {h' : AH} (n : Nat) (hG : G (evF T E n) xs h = some (r, h')) (hp : post r h') : Spec T E f xs h post :=
  ⟨n + 1, r, h', by simp only [evF, hEf, hG], hp⟩
omit hE in
theorem Spec.mono {f : Nat} {xs : List AV} {post post' : AV → AH → Prop} (hs : Spec T E f xs h post) (hp : ∀ r h', post r h' → post' r h') : Spec T E f xs h post' := by
  obtain ⟨n, r, h', hev, hq⟩ := hs
  exact ⟨n, r, h', hev, hp _ _ hq⟩
omit hE in
theorem WC.mono {c : C} {R' : X → Env → AH → Prop} (hs : WC T E c e h R) (hp : ∀ x e' h', R x e' h' → R' x e' h') : WC T E c e h R' := by
  obtain ⟨n, x, e', h', hev, hq⟩ := hs
  exact ⟨n, x, e', h', hev, hp _ _ _ hq⟩
end
end Go.Proofs.YtgdlaopjabjkbaaGreatDoor.Ab

/- DEMONIC RUNS: pieces of code of the machine, and steps of an iterator over a map, whose order is not known. -/
namespace Go.Proofs.YtgdlaopjabjkbaaGreatDoor.Ab
open Go

inductive D where
  | c (c : C)
  | nxt (it dst ok : Nat)
  | kl (ts : List Nat) (d : D)
  | seq (a b : D)
  | blk (id : Nat) (d : D)
  | loop (d : D)

abbrev RP := X → Env → AH → Prop
abbrev WCt := C → Env → AH → RP → Prop
def dRounds (W : Env → AH → RP → Prop) (R : RP) : Nat → Env → AH → Prop
  | 0, _, _ => False
  | k + 1, e, h => W e h (then' (fun e' h' => dRounds W R k e' h') R)
def dW (Wc : WCt) : D → Env → AH → RP → Prop
  | .c c, e, h, R => Wc c e h R
  | .nxt it dst ok, e, h, R => ∃ c cm seen es, e.get it = .iter c ∧ h[c]? = some (.mit cm es.length seen) ∧ h[cm]? = some (.map es) ∧
      (∀ (i : Nat) k v, es[i]? = some (k, v) → i ∉ seen → R .normal ((e.set dst (.tup [.bool true, k, v])).set ok (.bool true)) (h.set c (.mit cm es.length (seen ++ [i])))) ∧
      ((∀ i, i < es.length → i ∈ seen) → R .normal ((e.set dst (.tup [.bool false])).set ok (.bool false)) h)
  | .kl ts d, e, h, R => dW Wc d (e.dels ts) h R
  | .seq a b, e, h, R => dW Wc a e h (then' (fun e' h' => dW Wc b e' h' R) R)
  | .blk id d, e, h, R => dW Wc d e h (inBlk id R)
  | .loop d, e, h, R => ∃ n, dRounds (dW Wc d) R n e h

def WMono (Wc : WCt) : Prop := ∀ c e h (R R' : RP), (∀ x e' h', R x e' h' → R' x e' h') → Wc c e h R → Wc c e h R'
theorem then_mono {K K' : Env → AH → Prop} {R R' : RP} (hk : ∀ e h, K e h → K' e h) (hr : ∀ x e h, R x e h → R' x e h) : ∀ x e h, then' K R x e h → then' K' R' x e h := by
  intro x e h
  cases x <;> simp only [then'] <;> first | exact hk _ _ | exact hr _ _ _
theorem inBlk_mono {id : Nat} {R R' : RP} (hr : ∀ x e h, R x e h → R' x e h) : ∀ x e h, inBlk id R x e h → inBlk id R' x e h := by
  intro x e h
  cases x <;> simp only [inBlk] <;> first
    | exact hr _ _ _
    | (split <;> exact hr _ _ _)
theorem dW_mono {Wc : WCt} (hW : WMono Wc) : ∀ (d : D) (e : Env) (h : AH) (R R' : RP), (∀ x e' h', R x e' h' → R' x e' h') → dW Wc d e h R → dW Wc d e h R'
  | .c c, e, h, R, R', hr, hw => hW c e h R R' hr hw
  | .nxt it dst ok, e, h, R, R', hr, ⟨c, cm, seen, es, h1, h2, h3, h4, h5⟩ => ⟨c, cm, seen, es, h1, h2, h3, fun i k v a b => hr _ _ _ (h4 i k v a b), fun a => hr _ _ _ (h5 a)⟩
  | .kl ts d, e, h, R, R', hr, hw => dW_mono hW d _ h R R' hr hw
  | .seq a b, e, h, R, R', hr, hw => dW_mono hW a e h _ _ (then_mono (fun e' h' => dW_mono hW b e' h' R R' hr) hr) hw
  | .blk id d, e, h, R, R', hr, hw => dW_mono hW d e h _ _ (inBlk_mono hr) hw
  | .loop d, e, h, R, R', hr, ⟨n, hn⟩ => by
    refine ⟨n, ?_⟩
    induction n generalizing e h with
    | zero => exact hn
    | succ n ih => exact dW_mono hW d e h _ _ (then_mono (fun e' h' => ih e' h') hr) hn
theorem dW_imp {Wc Wc' : WCt} (hm : WMono Wc') (hi : ∀ c e h R, Wc c e h R → Wc' c e h R) : ∀ (d : D) (e : Env) (h : AH) (R : RP), dW Wc d e h R → dW Wc' d e h R
  | .c c, e, h, R, hw => hi c e h R hw
  | .nxt _ _ _, _, _, _, hw => hw
  | .kl ts d, e, h, R, hw => dW_imp hm hi d _ h R hw
  | .seq a b, e, h, R, hw => dW_mono hm a e h _ _ (then_mono (fun e' h' => dW_imp hm hi b e' h' R) fun _ _ _ x => x) (dW_imp hm hi a e h _ hw)
  | .blk id d, e, h, R, hw => dW_imp hm hi d e h _ hw
  | .loop d, e, h, R, ⟨n, hn⟩ => by
    refine ⟨n, ?_⟩
    induction n generalizing e h with
    | zero => exact hn
    | succ n ih => exact dW_mono hm d e h _ _ (then_mono (fun e' h' => ih e' h') fun _ _ _ x => x) (dW_imp hm hi d e h _ hn)

/-! ### Two answers of one run meet -/
def WBoth (Wc : WCt) : Prop := ∀ c e h (R R' : RP), Wc c e h R → Wc c e h R' → ∃ x e' h', R x e' h' ∧ R' x e' h'
theorem then_both {K K' : Env → AH → Prop} {R R' : RP} (hk : ∀ e h, K e h → K' e h → ∃ x e' h', R x e' h' ∧ R' x e' h') {x : X} {e : Env} {h : AH} (h1 : then' K R x e h) (h2 : then' K' R' x e h) : ∃ x e' h', R x e' h' ∧ R' x e' h' := by
  cases x <;> simp only [then'] at h1 h2 <;> first | exact hk _ _ h1 h2 | exact ⟨_, _, _, h1, h2⟩
theorem dW_both {Wc : WCt} (hW : WBoth Wc) : ∀ (d : D) (e : Env) (h : AH) (R R' : RP), dW Wc d e h R → dW Wc d e h R' → ∃ x e' h', R x e' h' ∧ R' x e' h'
  | .c c, e, h, R, R', h1, h2 => hW c e h R R' h1 h2
  | .nxt it dst ok, e, h, R, R', ⟨c, cm, seen, es, a1, a2, a3, a4, a5⟩, ⟨c', cm', seen', es', b1, b2, b3, b4, b5⟩ => by
    rw [a1] at b1; cases b1
    rw [a2] at b2
    simp only [Option.some.injEq, AO.mit.injEq] at b2
    obtain ⟨rfl, _, rfl⟩ := b2
    rw [a3] at b3; cases b3
    by_cases hall : ∀ i, i < es.length → i ∈ seen
    · exact ⟨_, _, _, a5 hall, b5 hall⟩
    · simp only [Classical.not_forall] at hall
      obtain ⟨i, hi, hs⟩ := hall
      have he : es[i]? = some (es[i].1, es[i].2) := List.getElem?_eq_getElem hi
      exact ⟨_, _, _, a4 i _ _ he hs, b4 i _ _ he hs⟩
  | .kl ts d, e, h, R, R', h1, h2 => dW_both hW d _ h R R' h1 h2
  | .seq a b, e, h, R, R', h1, h2 => by
    obtain ⟨x, e', h', k1, k2⟩ := dW_both hW a e h _ _ h1 h2
    exact then_both (fun e' h' => dW_both hW b e' h' R R') k1 k2
  | .blk id d, e, h, R, R', h1, h2 => by
    obtain ⟨x, e', h', k1, k2⟩ := dW_both hW d e h _ _ h1 h2
    cases x <;> simp only [inBlk] at k1 k2
    · exact ⟨_, _, _, k1, k2⟩
    · split at k1
      · rename_i hid; rw [if_pos hid] at k2; exact ⟨_, _, _, k1, k2⟩
      · rename_i hid; rw [if_neg hid] at k2; exact ⟨_, _, _, k1, k2⟩
    · exact ⟨_, _, _, k1, k2⟩
  | .loop d, e, h, R, R', ⟨n, h1⟩, ⟨n', h2⟩ => by
    induction n generalizing e h n' with
    | zero => exact h1.elim
    | succ n ih =>
      cases n' with
      | zero => exact h2.elim
      | succ n' =>
        obtain ⟨x, e', h', k1, k2⟩ := dW_both hW d e h _ _ h1 h2
        exact then_both (fun e' h' a b => ih e' h' a n' b) k1 k2

/-! ### One fuel is enough: a step has few ways on -/
def Wcf (cf : CF) : WCt := fun c e h R => ∃ n x e' h', evC cf n c e h = some (x, e', h') ∧ R x e' h'
theorem Wcf_mono (cf : CF) : WMono (Wcf cf) := fun _ _ _ _ _ hr ⟨n, x, e', h', h1, h2⟩ => ⟨n, x, e', h', h1, hr _ _ _ h2⟩
theorem Wcf_both (cf : CF) : WBoth (Wcf cf) := by
  rintro c e h R R' ⟨n, x, e', h', h1, h2⟩ ⟨n', y, f, g, k1, k2⟩
  have a := evC_mono (CF.le_refl cf) (Nat.le_max_left n n') c h1
  have b := evC_mono (CF.le_refl cf) (Nat.le_max_right n n') c k1
  rw [a] at b; cases b
  exact ⟨_, _, _, h2, k2⟩
theorem Wcf_le {cf cf' : CF} (hle : cf.le cf') (c : C) (e : Env) (h : AH) (R : RP) (hw : Wcf cf c e h R) : Wcf cf' c e h R := by
  obtain ⟨n, x, e', h', h1, h2⟩ := hw
  exact ⟨n, x, e', h', evC_mono hle (Nat.le_refl n) c h1, h2⟩
theorem up_fin {n : Nat} {Q : Nat → Nat → Prop} (hm : ∀ i N N', N ≤ N' → Q i N → Q i N') (h : ∀ i, i < n → ∃ N, Q i N) : ∃ N, ∀ i, i < n → Q i N := by
  induction n with
  | zero => exact ⟨0, fun i hi => by omega⟩
  | succ n ih =>
    obtain ⟨N, hN⟩ := ih fun i hi => h i (by omega)
    obtain ⟨M, hM⟩ := h n (by omega)
    refine ⟨max N M, fun i hi => ?_⟩
    by_cases e : i = n
    · subst e; exact hm _ _ _ (Nat.le_max_right N M) hM
    · exact hm _ _ _ (Nat.le_max_left N M) (hN i (by omega))
theorem dW_fuel {T : Nat → Option FI} {E : Ext} (hE : EMono E) : ∀ (d : D) (e : Env) (h : AH) (R : Nat → RP), (∀ N N', N ≤ N' → ∀ x e' h', R N x e' h' → R N' x e' h') → dW (WC T E) d e h (fun x e' h' => ∃ N, R N x e' h') → ∃ N, dW (Wcf (evF T E N)) d e h (R N) := by
  have le : ∀ {N N' : Nat}, N ≤ N' → (evF T E N).le (evF T E N') := fun hn => evF_mono hE hn
  have up : ∀ {N N' : Nat} (d : D) (e : Env) (h : AH) (R R' : RP), N ≤ N' → (∀ x e' h', R x e' h' → R' x e' h') → dW (Wcf (evF T E N)) d e h R → dW (Wcf (evF T E N')) d e h R' := fun d e h R R' hn hr hw => dW_mono (Wcf_mono _) d e h R R' hr (dW_imp (Wcf_mono _) (fun c e h R => Wcf_le (le hn) c e h R) d e h R hw)
  have tup : ∀ {K : Nat → Env → AH → Prop} {R : Nat → RP}, (∀ N N', N ≤ N' → ∀ e' h', K N e' h' → K N' e' h') → (∀ N N', N ≤ N' → ∀ x e' h', R N x e' h' → R N' x e' h') → ∀ N N', N ≤ N' → ∀ x e' h', then' (K N) (R N) x e' h' → then' (K N') (R N') x e' h' :=
    fun hk hr N N' hn => then_mono (hk N N' hn) (hr N N' hn)
  intro d
  induction d with
  | c c =>
    rintro e h R hm ⟨n, x, e', h', h1, N, h2⟩
    exact ⟨max n N, n, x, e', h', evC_mono (le (Nat.le_max_left n N)) (Nat.le_refl n) c h1, hm _ _ (Nat.le_max_right n N) _ _ _ h2⟩
  | nxt it dst ok =>
    rintro e h R hm ⟨c, cm, seen, es, h1, h2, h3, h4, h5⟩
    have a : ∃ N, ∀ i, i < es.length → ∀ k v, es[i]? = some (k, v) → i ∉ seen → R N .normal ((e.set dst (.tup [.bool true, k, v])).set ok (.bool true)) (h.set c (.mit cm es.length (seen ++ [i]))) := by
      refine up_fin (Q := fun i N => ∀ k v, es[i]? = some (k, v) → i ∉ seen → R N .normal ((e.set dst (.tup [.bool true, k, v])).set ok (.bool true)) (h.set c (.mit cm es.length (seen ++ [i])))) (fun i N N' hn hq k v a b => hm N N' hn _ _ _ (hq k v a b)) fun i hi => ?_
      by_cases hs : i ∈ seen
      · exact ⟨0, fun _ _ _ hns => absurd hs hns⟩
      · obtain ⟨N, hN⟩ := h4 i es[i].1 es[i].2 (List.getElem?_eq_getElem hi) hs
        refine ⟨N, fun k v hkv _ => ?_⟩
        have : es[i]? = some (es[i].1, es[i].2) := List.getElem?_eq_getElem hi
        rw [this] at hkv; cases hkv
        exact hN
    have b : ∃ N, (∀ i, i < es.length → i ∈ seen) → R N .normal ((e.set dst (.tup [.bool false])).set ok (.bool false)) h := by
      by_cases hall : ∀ i, i < es.length → i ∈ seen
      · obtain ⟨N, hN⟩ := h5 hall
        exact ⟨N, fun _ => hN⟩
      · exact ⟨0, fun x => absurd x hall⟩
    obtain ⟨N, hN⟩ := a
    obtain ⟨M, hM⟩ := b
    exact ⟨max N M, c, cm, seen, es, h1, h2, h3, fun i k v hk hs => hm _ _ (Nat.le_max_left N M) _ _ _ (hN i (List.getElem?_eq_some_iff.1 hk).1 k v hk hs), fun hall => hm _ _ (Nat.le_max_right N M) _ _ _ (hM hall)⟩
  | kl ts d ih => intro e h R hm hw; exact ih _ h R hm hw
  | seq a b iha ihb =>
    intro e h R hm hw
    refine iha e h (fun N => then' (fun e' h' => dW (Wcf (evF T E N)) b e' h' (R N)) (R N)) (tup (fun N N' hn e' h' => up b e' h' _ _ hn (hm N N' hn)) hm) ?_
    refine dW_mono (fun c e h R R' hr ⟨n, x, e', h', h1, h2⟩ => ⟨n, x, e', h', h1, hr _ _ _ h2⟩) a e h _ _ ?_ hw
    intro x e' h' hx
    cases x <;> simp only [then'] at hx ⊢
    · exact ihb e' h' R hm hx
    · exact hx
    · exact hx
  | blk id d ih =>
    intro e h R hm hw
    refine ih e h (fun N => inBlk id (R N)) (fun N N' hn => inBlk_mono (hm N N' hn)) ?_
    refine dW_mono (fun c e h R R' hr ⟨n, x, e', h', h1, h2⟩ => ⟨n, x, e', h', h1, hr _ _ _ h2⟩) d e h _ _ ?_ hw
    intro x e' h' hx
    cases x <;> simp only [inBlk] at hx ⊢
    · exact hx
    · split at hx
      · rename_i hid
        obtain ⟨N, hN⟩ := hx
        exact ⟨N, by rw [if_pos hid]; exact hN⟩
      · rename_i hid
        obtain ⟨N, hN⟩ := hx
        exact ⟨N, by rw [if_neg hid]; exact hN⟩
    · exact hx
  | loop d ih =>
    intro e h R hm ⟨n, hn⟩
    have main : ∀ n e h, dRounds (dW (WC T E) d) (fun x e' h' => ∃ N, R N x e' h') n e h → ∃ N, dRounds (dW (Wcf (evF T E N)) d) (R N) n e h := by
      intro n
      induction n with
      | zero => intro e h hw; exact hw.elim
      | succ n ihn =>
        intro e h hw
        have upr : ∀ N N', N ≤ N' → ∀ e' h', dRounds (dW (Wcf (evF T E N)) d) (R N) n e' h' → dRounds (dW (Wcf (evF T E N')) d) (R N') n e' h' := by
          intro N N' hn'
          clear ihn hw hn
          induction n with
          | zero => intro e' h' hx; exact hx
          | succ n ih2 => intro e' h' hx; exact up d e' h' _ _ hn' (then_mono (fun e2 h2 => ih2 e2 h2) (hm N N' hn')) hx
        refine ih e h (fun N => then' (fun e' h' => dRounds (dW (Wcf (evF T E N)) d) (R N) n e' h') (R N)) (tup upr hm) ?_
        refine dW_mono (fun c e h R R' hr ⟨n, x, e', h', h1, h2⟩ => ⟨n, x, e', h', h1, hr _ _ _ h2⟩) d e h _ _ ?_ hw
        intro x e' h' hx
        cases x <;> simp only [then'] at hx ⊢
        · exact ihn e' h' hx
        · exact hx
        · exact hx
    obtain ⟨N, hN⟩ := main n e h hn
    exact ⟨N, n, hN⟩
end Go.Proofs.YtgdlaopjabjkbaaGreatDoor.Ab

/- CONTRACTS outside the table of bodies: functions of strings, by what they answer. -/
namespace Go.Proofs.YtgdlaopjabjkbaaGreatDoor.Ab
open Go

/-- Functions that turn nothing: of strings and numbers, or of what a slice holds. -/
def pureX (G : List AV → AH → Option AV) : CF → List AV → AH → Option (AV × AH) := fun _ xs h => (G xs h).map (·, h)
def low (s : List UInt8) : Bool := s.all fun b => decide (b.toNat < 128)
def xTrim : List AV → Option AV
  | [.str s, .str c] => if s.length ≤ 4294967280 ∧ c.length ≤ 4294967280 ∧ low c = true then some (.str (Go.Lib.trimS s c)) else none
  | _ => none
def xIndexByte : List AV → Option AV
  | [.str s, .int .u8 c] => some (.int .i64 (Go.Lib.indexByte s c.toNat.toUInt8))
  | _ => none
def xIndex : List AV → Option AV
  | [.str s, .str [c]] => some (.int .i64 (Go.Lib.indexByte s c))
  | _ => none
def xContains : List AV → Option AV
  | [.str s, .str [c]] => some (.bool (decide (0 ≤ Go.Lib.indexByte s c)))
  | _ => none
def xCount : List AV → Option AV
  | [.str s, .str [c]] => some (.int .i64 (Go.Lib.countByte s c))
  | _ => none

def strsOf : List AV → Option (List (List UInt8))
  | [] => some []
  | .str s :: l => (strsOf l).map (s :: ·)
  | _ :: _ => none
def xJoin : List AV → AH → Option AV
  | [.slice c k off len e, .str sep], h => if e = 1 then match rdRow h c k off len with
    | some cs => match strsOf cs with
      | some xs => if (Go.Lib.join xs sep).length ≤ 140737488355328 ∧ len ≤ 140737488355328 then some (.str (Go.Lib.join xs sep)) else none
      | none => none
    | none => none
    else none
  | _, _ => none
def xRepeat : List AV → Option AV
  | [.str s, .int .i64 n] => if 0 ≤ n ∧ n ≤ 9223372036854775807 ∧ s.length * n.toNat ≤ 140737488355328 then some (.str (Go.Lib.repeatL s n.toNat)) else none
  | _ => none

/-- What stands ahead of i and from j on, the rest laid to zero (elements of three numbers). -/
def xDelete3 : List AV → AH → Option (AV × AH)
  | [.slice c k off n e, .int .i64 i, .int .i64 j], h => if e = 3 ∧ 0 ≤ i ∧ i < j ∧ j ≤ (n : Int) ∧ n ≤ 1099511627776 then match rdRow h c k (off + j.toNat * 3) ((n - j.toNat) * 3) with
    | some cs => match wrRow h c k (off + i.toNat * 3) cs with
      | some h1 => match wrRow h1 c k (off + (i.toNat + (n - j.toNat)) * 3) (List.replicate ((j.toNat - i.toNat) * 3) (.int .i64 0)) with
        | some h2 => some (.slice c k off (n - (j.toNat - i.toNat)) 3, h2)
        | none => none
      | none => none
    | none => none
    else none
  | _, _ => none

/-- A slice of texts in order. -/
def xSortS : List AV → AH → Option (AV × AH)
  | [.nilS], h => some (.tup [], h)
  | [.empS], h => some (.tup [], h)
  | [.slice c k off n e], h => if e = 1 ∧ 1 ≤ n ∧ n ≤ 1099511627776 then match rdRow h c k off n with
    | some cs => match strsOf cs with
      | some ss => (wrRow h c k off ((ss.mergeSort fun x y => decide (x ≤ y)).map AV.str)).map fun h' => (.tup [], h')
      | none => none
    | none => none
    else none
  | _, _ => none

/-! ### Texts parted, a sign struck, moves put in order -/
def splA (c : UInt8) : List UInt8 → List UInt8 → List (List UInt8)
  | cur, [] => [cur]
  | cur, b :: s => if b = c then cur :: splA c [] s else splA c (cur ++ [b]) s
theorem splA_cons (c : UInt8) (cur : List UInt8) (b : UInt8) (s : List UInt8) : splA c cur (b :: s) = if b = c then cur :: splA c [] s else splA c (cur ++ [b]) s := rfl
def xSplit : List AV → AH → Option (AV × AH)
  | [.str s, .str [c]], h => if s.length ≤ 4294967280 then some (.slice h.length 0 0 (splA c [] s).length 1, h ++ [.row ((splA c [] s).map AV.str) 0 0 false]) else none
  | _, _ => none
abbrev noB (c : UInt8) (s : List UInt8) : List UInt8 := s.filter fun b => !(b == c)
def xReplaceAll : List AV → Option AV
  | [.str s, .str [c], .str []] => if s.length ≤ 4294967280 then some (.str (noB c s)) else none
  | _ => none
abbrev Mo := Int × Int
def ltMo (a b : Mo) : Prop := a.1 < b.1 ∨ (a.1 = b.1 ∧ a.2 < b.2)
instance (a b : Mo) : Decidable (ltMo a b) := by unfold ltMo; infer_instance
/-- Sorted as the program sorts. -/
def srtMo (l : List Mo) : List Mo := l.mergeSort fun x y => !decide (ltMo y x)
def mosOf : List AV → Option (List Mo)
  | [] => some []
  | .int .i64 a :: .int .i64 b :: l => (mosOf l).map ((a, b) :: ·)
  | _ => none
abbrev moC (l : List Mo) : List AV := l.flatMap fun m => [.int .i64 m.1, .int .i64 m.2]
/-- A slice of moves in order, by the function f. -/
def xSortM (f : Nat) : List AV → AH → Option (AV × AH)
  | [.nilS, .fn g []], h => if g = f then some (.tup [], h) else none
  | [.empS, .fn g []], h => if g = f then some (.tup [], h) else none
  | [.slice c k off n e, .fn g []], h => if g = f ∧ n = 0 then some (.tup [], h) else if g = f ∧ e = 2 ∧ n ≤ 1099511627776 then match rdRow h c k off (n * 2) with
    | some cs => match mosOf cs with
      | some ms => (wrRow h c k off (moC (srtMo ms))).map fun h' => (.tup [], h')
      | none => none
    | none => none
    else none
  | _, _ => none

/-! ### Texts gathered from a map, whose order is not known -/
/-- impl.someReached: the code, its steps over the map left open. -/
def dSome3 : D := .kl [8, 21, 22, 23] (.c (.cond (.t 24) (.reg [⟨some 25, .mov (.t 6), none⟩, ⟨some 26, .mov (.t 7), none⟩, ⟨some 27, .lit 1 1 [.str []] [(0, 1, .t 26)], none⟩, ⟨some 28, .app 1 (.t 25) (.t 27), none⟩, ⟨some 6, .mov (.t 28), none⟩]) .skip))
def dSome2 : D := .seq (.c (.reg [⟨some 21, .mov (.t 1), none⟩, ⟨some 22, .mov (.t 7), none⟩, ⟨some 23, .mov (.t 8), none⟩, ⟨some 24, .callv (.t 21) [.t 22, .t 23], none⟩])) dSome3
def dSome1 : D := .seq (.c (.reg [⟨some 18, .ent (.t 15), none⟩, ⟨some 19, .prj 0 (.t 18), none⟩, ⟨some 20, .prj 1 (.t 18), none⟩, ⟨some 7, .mov (.t 19), none⟩, ⟨some 8, .mov (.t 20), none⟩])) (.kl [18, 19, 20] dSome2)
def dSomeL : D := .kl [7, 8, 16, 17, 18, 19, 20, 21, 22, 23, 24, 25, 26, 27, 28] (.seq (.nxt 15 16 17) (.kl [16] (.seq (.c (.cond (.t 17) .skip (.kl [1, 15, 17] (.exit 0)))) (.kl [17] (.blk 1 dSome1)))))
def dSomeT : D := .seq (.c (.reg [⟨some 29, .mov (.t 6), none⟩, ⟨some 30, .call 275 [.t 29], none⟩])) (.kl [29, 30] (.c (.seq (.reg [⟨some 31, .mov (.t 6), none⟩, ⟨some 4, .mov (.t 31), none⟩, ⟨some 5, .mov (.c (.bool true)), none⟩]) .ret)))
def dSomeM : D := .seq (.seq (.c (.reg [⟨some 13, .mov (.t 0), none⟩, ⟨some 14, .call 273 [.t 13], none⟩, ⟨some 15, .rngM (.t 14), none⟩])) (.kl [0, 13, 14] (.blk 0 (.loop dSomeL)))) dSomeT
def dSome : D :=
  .seq (.c (.reg [⟨some 4, .mov (.c .nilS), none⟩, ⟨some 5, .mov (.c (.bool false)), none⟩]))
  (.seq (.c (.seq (.reg [⟨some 9, .mov (.t 0), none⟩, ⟨some 10, .call 56 [.t 9], none⟩, ⟨some 11, .un .not (.t 10), none⟩]) (.kl [9, 10] (.cond (.t 11) (.seq (.reg [⟨some 4, .mov (.c .nilS), none⟩, ⟨some 5, .mov (.c (.bool false)), none⟩]) .ret) .skip))))
  (.kl [4, 5, 11] (.seq (.c (.reg [⟨some 12, .lit0, none⟩, ⟨some 6, .mov (.t 12), none⟩])) (.kl [12] dSomeM))))
/-- What comes of it: nil, or nothing, or a slice of one's own; a yes or no. -/
def FinR (ra rb : Nat) (h : AH) (q : Nat × Bool × List (List UInt8)) : RP := fun x e' h' => x = .ret ∧ e'.get rb = .bool q.2.1 ∧ (∀ i, i < h.length → h'[i]? = h[i]?) ∧
  ((q.1 = 0 ∧ q.2.2 = [] ∧ e'.get ra = .nilS) ∨ (q.1 = 1 ∧ q.2.2 = [] ∧ e'.get ra = .empS) ∨
   (q.1 = 2 ∧ ∃ r k off n cells fl, e'.get ra = .slice r k off n 1 ∧ h.length ≤ r ∧ h'[r]? = some (.row cells k fl false) ∧ fl ≤ k ∧ n = q.2.2.length ∧ 1 ≤ n ∧ off + n * 1 = cells.length ∧ cells.drop off = q.2.2.map AV.str))
theorem strs_inj : ∀ {a b : List (List UInt8)}, a.map AV.str = b.map AV.str → a = b
  | [], [], _ => rfl
  | [], _ :: _, h => by simp at h
  | _ :: _, [], h => by simp at h
  | x :: a, y :: b, h => by
    simp only [List.map_cons, List.cons.injEq, AV.str.injEq] at h
    rw [h.1, strs_inj h.2]
theorem FinR.uniq {ra rb : Nat} {h h' : AH} {q q' : Nat × Bool × List (List UInt8)} {x : X} {e' : Env} (a : FinR ra rb h q x e' h') (b : FinR ra rb h q' x e' h') : q = q' := by
  obtain ⟨q1, q2, q3⟩ := q
  obtain ⟨p1, p2, p3⟩ := q'
  obtain ⟨_, a1, _, a2⟩ := a
  obtain ⟨_, b1, _, b2⟩ := b
  simp only at a1 b1 a2 b2
  rw [a1] at b1
  simp only [AV.bool.injEq] at b1
  subst b1
  rcases a2 with ⟨rfl, rfl, a3⟩ | ⟨rfl, rfl, a3⟩ | ⟨rfl, r, k, off, n, cells, fl, a3, a4, a5, a6, a7, a8, a9, a10⟩ <;> rcases b2 with ⟨rfl, rfl, b3⟩ | ⟨rfl, rfl, b3⟩ | ⟨rfl, r', k', off', n', cells', fl', b3, b4, b5, b6, b7, b8, b9, b10⟩ <;> rw [a3] at b3 <;> first
    | rfl
    | (cases b3; done)
    | (simp only [AV.slice.injEq] at b3
       obtain ⟨rfl, rfl, rfl, rfl, _⟩ := b3
       rw [a5] at b5
       simp only [Option.some.injEq, AO.row.injEq] at b5
       obtain ⟨rfl, _⟩ := b5
       rw [a10] at b10
       rw [strs_inj b10])
def ansR (h : AH) (q : Nat × Bool × List (List UInt8)) : AV × AH := match q.1 with
  | 0 => (.tup [.nilS, .bool q.2.1], h)
  | 1 => (.tup [.empS, .bool q.2.1], h)
  | _ => (.tup [.slice h.length 0 0 q.2.2.length 1, .bool q.2.1], h ++ [.row (q.2.2.map AV.str) 0 0 false])
open Classical in
noncomputable def xGather (d : D) (ra rb : Nat) : CF → List AV → AH → Option (AV × AH) := fun cf xs h =>
  if H : ∃ q, dW (Wcf cf) d (Env.init 0 xs) h (FinR ra rb h q) then some (ansR h (Classical.choose H)) else none
theorem xGather_at {d : D} {ra rb : Nat} {cf : CF} {xs : List AV} {h : AH} {q : Nat × Bool × List (List UInt8)} (hq : dW (Wcf cf) d (Env.init 0 xs) h (FinR ra rb h q)) : xGather d ra rb cf xs h = some (ansR h q) := by
  have H : ∃ q, dW (Wcf cf) d (Env.init 0 xs) h (FinR ra rb h q) := ⟨q, hq⟩
  unfold xGather
  rw [dif_pos H]
  obtain ⟨x, e', h', a, b⟩ := dW_both (Wcf_both cf) d _ _ _ _ (Classical.choose_spec H) hq
  rw [FinR.uniq a b]
theorem xGather_some {d : D} {ra rb : Nat} {cf : CF} {xs : List AV} {h : AH} {r : AV × AH} (hr : xGather d ra rb cf xs h = some r) : ∃ q, dW (Wcf cf) d (Env.init 0 xs) h (FinR ra rb h q) ∧ r = ansR h q := by
  unfold xGather at hr
  split at hr
  · rename_i H
    cases hr
    exact ⟨_, Classical.choose_spec H, rfl⟩
  · cases hr
theorem xGather_mono {d : D} {ra rb : Nat} {cf cf' : CF} (hle : cf.le cf') {xs : List AV} {h : AH} {r : AV × AH} (hr : xGather d ra rb cf xs h = some r) : xGather d ra rb cf' xs h = some r := by
  obtain ⟨q, hq, rfl⟩ := xGather_some hr
  exact xGather_at (dW_imp (Wcf_mono _) (fun c e h R => Wcf_le hle c e h R) d _ _ _ hq)
noncomputable def xSome : CF → List AV → AH → Option (AV × AH) := xGather dSome 4 5

/-- impl.LinesHalfway: the code, its steps over the map left open. -/
def dHalfB : C := .seq (.cond (.t 29) (.skip) (.kl [8, 27, 29] (.exit 0))) (.kl [29] (.blk 1 (.seq (.reg [⟨some 30, .ent (.t 27), none⟩, ⟨some 31, .prj 0 (.t 30), none⟩, ⟨some 32, .prj 1 (.t 30), none⟩, ⟨some 11, .mov (.t 31), none⟩, ⟨some 12, .mov (.t 32), none⟩]) (.kl [30, 31, 32] (.seq (.reg [⟨some 33, .mov (.t 12), none⟩, ⟨some 34, .mov (.t 8), none⟩, ⟨some 35, .bin .quo (.t 34) (.c (.int .i64 2)), none⟩, ⟨some 36, .bin .eql (.t 33) (.t 35), none⟩]) (.kl [12, 33, 34, 35] (.cond (.t 36) (.kl [36] (.reg [⟨some 37, .mov (.t 10), none⟩, ⟨some 38, .mov (.t 11), none⟩, ⟨some 39, .lit 1 1 [.str []] [(0, 1, .t 38)], none⟩, ⟨some 40, .app 1 (.t 37) (.t 39), none⟩, ⟨some 10, .mov (.t 40), none⟩])) (.skip))))))))
def dHalfL : D := .kl [11, 36, 37, 38, 39, 40] (.seq (.nxt 27 28 29) (.kl [28] (.c dHalfB)))
def dHalfT : C := .seq (.reg [⟨some 41, .mov (.t 10), none⟩, ⟨some 42, .call 275 [.t 41], none⟩]) (.kl [41, 42] (.seq (.reg [⟨some 43, .mov (.t 10), none⟩, ⟨some 6, .mov (.t 43), none⟩, ⟨some 7, .mov (.c (.bool true)), none⟩]) (.kl [10, 43] (.ret))))
def dHalfM : D := .seq (.seq (.c (.reg [⟨some 23, .mov (.t 0), none⟩, ⟨some 24, .mov (.t 1), none⟩, ⟨some 25, .mov (.t 2), none⟩, ⟨some 26, .call 314 [.t 23, .t 24, .t 25], none⟩, ⟨some 27, .rngM (.t 26), none⟩])) (.kl [0, 1, 2, 23, 24, 25, 26] (.blk 0 (.loop dHalfL)))) (.c dHalfT)
def dHalf : D := .seq (.c (.reg [⟨some 6, .mov (.c (.nilS)), none⟩, ⟨some 7, .mov (.c (.bool false)), none⟩])) (.kl [6, 7] (.seq (.c (.reg [⟨some 14, .mov (.t 0), none⟩, ⟨some 15, .mov (.t 1), none⟩, ⟨some 16, .mov (.t 2), none⟩, ⟨some 17, .call 313 [.t 14, .t 15, .t 16], none⟩, ⟨some 13, .mov (.t 17), none⟩, ⟨some 18, .prj 0 (.t 13), none⟩, ⟨some 19, .prj 1 (.t 13), none⟩, ⟨some 8, .mov (.t 18), none⟩, ⟨some 9, .mov (.t 19), none⟩])) (.kl [13, 14, 15, 16, 17, 18, 19] (.seq (.c (.seq (.reg [⟨some 20, .mov (.t 9), none⟩, ⟨some 21, .un .not (.t 20), none⟩]) (.kl [9, 20] (.cond (.t 21) (.kl [0, 1, 2, 8, 21] (.seq (.reg [⟨some 6, .mov (.c (.nilS)), none⟩, ⟨some 7, .mov (.c (.bool false)), none⟩]) (.ret))) (.skip))))) (.kl [21] (.seq (.c (.reg [⟨some 22, .lit0, none⟩, ⟨some 10, .mov (.t 22), none⟩])) (.kl [22] dHalfM)))))))
noncomputable def xHalf : CF → List AV → AH → Option (AV × AH) := xGather dHalf 6 7

def xtab : List (Nat × (List AV → AH → Option AV)) := [(111, fun xs _ => xTrim xs), (190, fun xs _ => xIndexByte xs), (194, fun xs _ => xIndex xs), (131, fun xs _ => xCount xs), (255, xJoin), (341, fun xs _ => xReplaceAll xs)]
def ytab : List (Nat × (List AV → AH → Option (AV × AH))) := [(338, xSplit), (343, xSortM 344)]
noncomputable def ztab : List (Nat × (CF → List AV → AH → Option (AV × AH))) := []
noncomputable def E : Ext := fun f => match xtab.find? fun x => x.1 == f with
  | some x => some (pureX x.2)
  | none => match ytab.find? fun x => x.1 == f with
    | some x => some fun _ xs h => x.2 xs h
    | none => (ztab.find? fun x => x.1 == f).map fun x => x.2
theorem ztab_mono : ∀ x ∈ ztab, ∀ cf cf' : CF, cf.le cf' → ∀ xs h r, x.2 cf xs h = some r → x.2 cf' xs h = some r := by
  intro x hx
  simp only [ztab, List.mem_cons, List.not_mem_nil, or_false] at hx
  all_goals cases hx
theorem hE : EMono E := by
  intro f G h cf cf' _ xs hh r hr
  unfold E at h
  split at h
  · cases h; exact hr
  · split at h
    · cases h; exact hr
    · simp only [Option.map_eq_some_iff] at h
      obtain ⟨x, hx, rfl⟩ := h
      exact ztab_mono x (List.mem_of_find?_eq_some hx) cf cf' ‹_› xs hh r hr
end Go.Proofs.YtgdlaopjabjkbaaGreatDoor.Ab

/- THE RELATION between the abstract machine's states and the model's. -/
namespace Go.Proofs.YtgdlaopjabjkbaaGreatDoor.Ab
open Go Go.RowKit

structure Place where
  blk : Nat
  base : Nat
  lo : Nat
  ext : Nat
  siz : Nat

structure Emb where
  row : Nat → Nat → Option Place
  obj : Nat → Option Nat

mutual
def RelV (F : Nat → Nat) (m : Emb) : AV → Value → Prop
  | .int k n, v => v = .int k n
  | .bool b, v => v = .bool b
  | .str s, v => v = .string ⟨s.toArray⟩
  | .nilS, v => v = .slice none 0 0
  | .empS, v => ∃ a, v = .slice (some a) 0 0
  | .slice c k off len esz, v => ∃ p o cap, m.row c k = some p ∧ v = .slice (some ⟨p.blk, o, none⟩) len cap ∧ len ≤ cap ∧
      (cap = 0 ∨ (p.lo ≤ off ∧ o = p.base + (off - p.lo) ∧ off + len * esz ≤ p.ext ∧ p.base + (off - p.lo) + cap * esz ≤ p.siz))
  | .nilP, v => v = .pointer none
  | .ptr c k off n, v => ∃ p, m.row c k = some p ∧ v = .pointer (some ⟨p.blk, p.base + (off - p.lo), none⟩) ∧ p.lo ≤ off ∧ off + n ≤ p.ext
  | .nilM, v => v = .map none
  | .map c, v => ∃ b, m.obj c = some b ∧ v = .map (some b)
  | .iter c, v => ∃ b, m.obj c = some b ∧ v = .pointer (some ⟨b, 0, none⟩)
  | .fn f cap, v => ∃ vs, v = .func (.func (F f)) #[] vs ∧ RelL F m cap vs.toList
  | .nilF, v => v = .nilFunc
  | .agg xs, v => ∃ vs, v = .agg vs ∧ RelL F m xs vs.toList
  | .tup xs, v => ∃ vs, v = .tuple vs ∧ RelL F m xs vs.toList
  | .nilI, v => v = .nilIface
  | .ifc, v => ∃ t u, v = .iface t u
  | .undef, _ => True
def RelL (F : Nat → Nat) (m : Emb) : List AV → List Value → Prop
  | [], l => l = []
  | x :: xs, l => ∃ v vs, l = v :: vs ∧ RelV F m x v ∧ RelL F m xs vs
end

def RelE (F : Nat → Nat) (m : Emb) : List (AV × AV) → List MapEntry → Prop
  | [], l => l = []
  | (k, v) :: es, l => ∃ e l', l = e :: l' ∧ RelV F m k e.key ∧ RelV F m v e.val ∧ RelE F m es l'

def Emb.le (m m' : Emb) : Prop := (∀ c k p, m.row c k = some p → m'.row c k = some p) ∧ ∀ c b, m.obj c = some b → m'.obj c = some b
theorem Emb.le_refl (m : Emb) : m.le m := ⟨fun _ _ _ h => h, fun _ _ h => h⟩
theorem Emb.le_trans {m m' m'' : Emb} (h : m.le m') (h' : m'.le m'') : m.le m'' := ⟨fun _ _ _ x => h'.1 _ _ _ (h.1 _ _ _ x), fun _ _ x => h'.2 _ _ (h.2 _ _ x)⟩

mutual
theorem RelV.mono {F : Nat → Nat} {m m' : Emb} (hm : m.le m') : ∀ (x : AV) (v : Value), RelV F m x v → RelV F m' x v
  | .int .., _, h | .bool _, _, h | .str _, _, h | .nilS, _, h | .empS, _, h | .nilP, _, h | .nilM, _, h | .nilF, _, h | .nilI, _, h | .ifc, _, h | .undef, _, h => by simp only [RelV] at h ⊢ <;> exact h
  | .slice .., _, h => by
    simp only [RelV] at h ⊢
    obtain ⟨p, o, cap, h1, h2⟩ := h
    exact ⟨p, o, cap, hm.1 _ _ _ h1, h2⟩
  | .ptr .., _, h => by
    simp only [RelV] at h ⊢
    obtain ⟨p, h1, h2⟩ := h
    exact ⟨p, hm.1 _ _ _ h1, h2⟩
  | .map _, _, h => by
    simp only [RelV] at h ⊢
    obtain ⟨b, h1, h2⟩ := h
    exact ⟨b, hm.2 _ _ h1, h2⟩
  | .iter _, _, h => by
    simp only [RelV] at h ⊢
    obtain ⟨b, h1, h2⟩ := h
    exact ⟨b, hm.2 _ _ h1, h2⟩
  | .fn _ cap, _, h => by
    simp only [RelV] at h ⊢
    obtain ⟨vs, h1, h2⟩ := h
    exact ⟨vs, h1, RelL.mono hm cap _ h2⟩
  | .agg xs, _, h => by
    simp only [RelV] at h ⊢
    obtain ⟨vs, h1, h2⟩ := h
    exact ⟨vs, h1, RelL.mono hm xs _ h2⟩
  | .tup xs, _, h => by
    simp only [RelV] at h ⊢
    obtain ⟨vs, h1, h2⟩ := h
    exact ⟨vs, h1, RelL.mono hm xs _ h2⟩
theorem RelL.mono {F : Nat → Nat} {m m' : Emb} (hm : m.le m') : ∀ (xs : List AV) (l : List Value), RelL F m xs l → RelL F m' xs l
  | [], _, h => by simpa only [RelL] using h
  | x :: xs, _, h => by
    simp only [RelL] at h ⊢
    obtain ⟨v, vs, h1, h2, h3⟩ := h
    exact ⟨v, vs, h1, RelV.mono hm x v h2, RelL.mono hm xs vs h3⟩
end

theorem RelE.mono {F : Nat → Nat} {m m' : Emb} (hm : m.le m') : ∀ (es : List (AV × AV)) (l : List MapEntry), RelE F m es l → RelE F m' es l
  | [], _, h => h
  | (k, v) :: es, l, h => by
    obtain ⟨e, l', h1, h2, h3, h4⟩ := h
    exact ⟨e, l', h1, RelV.mono hm _ _ h2, RelV.mono hm _ _ h3, RelE.mono hm es l' h4⟩

/-! ### Lists -/
theorem RelL.length {F : Nat → Nat} {m : Emb} : ∀ {xs : List AV} {l : List Value}, RelL F m xs l → l.length = xs.length
  | [], _, h => by simp only [RelL] at h; subst h; rfl
  | x :: xs, _, h => by
    simp only [RelL] at h
    obtain ⟨v, vs, rfl, _, h3⟩ := h
    simp [RelL.length h3]
theorem RelL.get {F : Nat → Nat} {m : Emb} : ∀ {xs : List AV} {l : List Value}, RelL F m xs l → ∀ (i : Nat) (x : AV), xs[i]? = some x → ∃ v, l[i]? = some v ∧ RelV F m x v
  | [], _, _, i, x, hx => by simp at hx
  | y :: xs, _, h, i, x, hx => by
    simp only [RelL] at h
    obtain ⟨v, vs, rfl, h2, h3⟩ := h
    cases i with
    | zero => simp at hx; subst hx; exact ⟨v, rfl, h2⟩
    | succ i => simp at hx; simpa using RelL.get h3 i x hx
theorem RelL.of {F : Nat → Nat} {m : Emb} : ∀ {xs : List AV} {l : List Value}, l.length = xs.length → (∀ (i : Nat) (x : AV) (v : Value), xs[i]? = some x → l[i]? = some v → RelV F m x v) → RelL F m xs l
  | [], l, hl, _ => by simp only [RelL]; exact List.eq_nil_of_length_eq_zero (by simpa using hl)
  | x :: xs, [], hl, _ => by simp at hl
  | x :: xs, v :: l, hl, h => by
    simp only [RelL]
    exact ⟨v, l, rfl, h 0 x v rfl rfl, RelL.of (by simpa using hl) fun i y u hy hu => h (i + 1) y u (by simpa using hy) (by simpa using hu)⟩
theorem RelL.append {F : Nat → Nat} {m : Emb} : ∀ {xs ys : List AV} {l l' : List Value}, RelL F m xs l → RelL F m ys l' → RelL F m (xs ++ ys) (l ++ l')
  | [], _, _, _, h, h' => by simp only [RelL] at h; subst h; simpa using h'
  | x :: xs, _, _, _, h, h' => by
    simp only [RelL] at h
    obtain ⟨v, vs, rfl, h2, h3⟩ := h
    simp only [List.cons_append, RelL]
    exact ⟨v, _, rfl, h2, h3.append h'⟩
theorem RelL.take {F : Nat → Nat} {m : Emb} (n : Nat) : ∀ {xs : List AV} {l : List Value}, RelL F m xs l → RelL F m (xs.take n) (l.take n)
  | [], _, h => by simp only [RelL] at h; subst h; simp [RelL]
  | x :: xs, _, h => by
    simp only [RelL] at h
    obtain ⟨v, vs, rfl, h2, h3⟩ := h
    cases n with
    | zero => simp [RelL]
    | succ n => simp only [List.take_succ_cons, RelL]; exact ⟨v, _, rfl, h2, h3.take n⟩
theorem RelL.drop {F : Nat → Nat} {m : Emb} (n : Nat) : ∀ {xs : List AV} {l : List Value}, RelL F m xs l → RelL F m (xs.drop n) (l.drop n)
  | [], _, h => by simp only [RelL] at h; subst h; simp [RelL]
  | x :: xs, _, h => by
    cases n with
    | zero => simpa using h
    | succ n =>
      simp only [RelL] at h
      obtain ⟨v, vs, rfl, h2, h3⟩ := h
      simpa using h3.drop n

/-- The cells of related values are related. -/
theorem RelV.cells {F : Nat → Nat} {m : Emb} {x : AV} {v : Value} (h : RelV F m x v) (hx : ∀ xs, x ≠ .tup xs) (hu : x ≠ .undef) : RelL F m x.cells v.cells.toList := by
  cases x <;> first
    | exact absurd rfl hu
    | exact absurd rfl (hx _)
    | (simp only [RelV] at h; obtain ⟨vs, rfl, h2⟩ := h; exact h2)
    | (have h' := h; simp only [RelV] at h'
       first
         | (subst h'; simp only [AV.cells, Value.cells, RelL]; exact ⟨_, _, rfl, h, rfl⟩)
         | (obtain ⟨a, rfl⟩ := h'; simp only [AV.cells, Value.cells, RelL]; exact ⟨_, _, rfl, h, rfl⟩)
         | (obtain ⟨a, b, rfl⟩ := h'; simp only [AV.cells, Value.cells, RelL]; exact ⟨_, _, rfl, h, rfl⟩)
         | (obtain ⟨a, h1, rfl⟩ := h'; simp only [AV.cells, Value.cells, RelL]; exact ⟨_, _, rfl, h, rfl⟩)
         | (obtain ⟨a, rfl, h1⟩ := h'; simp only [AV.cells, Value.cells, RelL]; exact ⟨_, _, rfl, h, rfl⟩)
         | (obtain ⟨a, h1, rfl, h2⟩ := h'; simp only [AV.cells, Value.cells, RelL]; exact ⟨_, _, rfl, h, rfl⟩)
         | (obtain ⟨a, b, c, h1, rfl, h2⟩ := h'; simp only [AV.cells, Value.cells, RelL]; exact ⟨_, _, rfl, h, rfl⟩))

theorem RelV.one {F : Nat → Nat} {m : Emb} {x : AV} {v : Value} (h : RelV F m x v) (hx : x.sc = true) : v.oneCell' = true := by
  cases x <;> simp only [AV.sc] at hx <;> first
    | (cases hx; done)
    | (simp only [RelV] at h
       first
         | (subst h; rfl)
         | (obtain ⟨a, rfl⟩ := h; rfl)
         | (obtain ⟨a, b, rfl⟩ := h; rfl)
         | (obtain ⟨a, h1, rfl⟩ := h; rfl)
         | (obtain ⟨a, rfl, h1⟩ := h; rfl)
         | (obtain ⟨a, h1, rfl, h2⟩ := h; rfl)
         | (obtain ⟨a, b, c, h1, rfl, h2⟩ := h; rfl))

/-! ### Heaps -/
def ObjRel (F : Nat → Nat) (base : Nat) (m : Emb) (w : World) (c : Nat) : AO → Prop
  | .row cs ver fl ro => ∀ k p, m.row c k = some p → fl ≤ k → k ≤ ver ∧ p.ext ≤ cs.length ∧ (k = ver → p.ext = cs.length) ∧ (ro = false → base ≤ p.blk) ∧
      ∃ C e fr, w.heap[p.blk]? = some (.cells C e fr) ∧ C.size = p.siz ∧ p.base + (p.ext - p.lo) ≤ p.siz ∧ (ro = false → p.siz ≤ fr.1 ∨ fr.2 ≤ fr.1) ∧
        ∀ j, p.lo ≤ j → j < p.ext → ∃ x v, cs[j]? = some x ∧ C[p.base + (j - p.lo)]? = some v ∧ RelV F m x v
  | .map es => ∀ b, m.obj c = some b → base ≤ b ∧ ∃ E clk, w.heap[b]? = some (.map E clk) ∧ RelE F m es E.toList ∧ clk = E.size ∧ ∀ (i : Nat) (e : MapEntry), E[i]? = some e → e.born = i
  | .iter s pos => ∀ b, m.obj c = some b → base ≤ b ∧ w.heap[b]? = some (.stringIter ⟨s.toArray⟩ pos)
  | .mit cm since seen => ∀ b, m.obj c = some b → base ≤ b ∧ ∃ bm sn, m.obj cm = some bm ∧ w.heap[b]? = some (.mapIter (some bm) since sn since) ∧ sn.toList = seen

def AO.isRow : AO → Bool
  | .row .. => true
  | _ => false

structure RelH (F : Nat → Nat) (base : Nat) (m : Emb) (h : AH) (w : World) : Prop where
  rowc : ∀ c k p, m.row c k = some p → ∃ o, h[c]? = some o ∧ o.isRow = true
  objc : ∀ c b, m.obj c = some b → ∃ o, h[c]? = some o ∧ o.isRow = false
  ob : ∀ c o, h[c]? = some o → ObjRel F base m w c o
  inj : ∀ c k p c' k' p', m.row c k = some p → m.row c' k' = some p' → base ≤ p.blk → p.blk = p'.blk → c = c' ∧ p.base + p'.lo = p'.base + p.lo ∧ p.siz = p'.siz
  injo : ∀ c c' b, m.obj c = some b → m.obj c' = some b → c = c'
  injr : ∀ c k p c' b, m.row c k = some p → m.obj c' = some b → p.blk ≠ b
  ltr : ∀ c k p, m.row c k = some p → p.blk < w.heap.size
  lto : ∀ c b, m.obj c = some b → b < w.heap.size
  vers : ∀ c cs ver fl ro k p, h[c]? = some (.row cs ver fl ro) → m.row c k = some p → k ≤ ver
  le : base ≤ w.heap.size

def Emb.has (m : Emb) (b : Nat) : Prop := (∃ c k p, m.row c k = some p ∧ p.blk = b) ∨ ∃ c, m.obj c = some b
def Emb.placed (m : Emb) (c : Nat) : Prop := (∃ k p, m.row c k = some p) ∨ ∃ b, m.obj c = some b

/-- What a piece of the run does. -/
structure StepR (F : Nat → Nat) (base : Nat) (m : Emb) (h : AH) (w : World) (m' : Emb) (h' : AH) (w' : World) : Prop where
  le : m.le m'
  rel : RelH F base m' h' w'
  os : w'.os = w.os
  tape : w'.tape = w.tape
  out : w'.output = w.output
  size : w.heap.size ≤ w'.heap.size
  frame : ∀ b, b < w.heap.size → (b < base ∨ ¬ m.has b) → w'.heap[b]? = w.heap[b]?
  newr : ∀ c k p, m'.row c k = some p → m.row c k = some p ∨ ((h.length ≤ c ∨ ∃ k0 p0, m.row c k0 = some p0) ∧ (w.heap.size ≤ p.blk ∨ ∃ k0 p0, m.row c k0 = some p0 ∧ p0.blk = p.blk))
  newo : ∀ c b, m'.obj c = some b → m.obj c = some b ∨ (h.length ≤ c ∧ w.heap.size ≤ b)
  unpl : ∀ c, c < h.length → ¬ m.placed c → h'[c]? = h[c]?
  len : h.length ≤ h'.length

theorem StepR.refl {F : Nat → Nat} {base : Nat} {m : Emb} {h : AH} {w : World} (hr : RelH F base m h w) : StepR F base m h w m h w :=
  ⟨Emb.le_refl m, hr, rfl, rfl, rfl, Nat.le_refl _, fun _ _ _ => rfl, fun _ _ _ h => .inl h, fun _ _ h => .inl h, fun _ _ _ => rfl, Nat.le_refl _⟩

theorem StepR.trans {F : Nat → Nat} {base : Nat} {m m' m'' : Emb} {h h' h'' : AH} {w w' w'' : World} (a : StepR F base m h w m' h' w') (b : StepR F base m' h' w' m'' h'' w'') :
    StepR F base m h w m'' h'' w'' where
  le := Emb.le_trans a.le b.le
  rel := b.rel
  os := b.os.trans a.os
  tape := b.tape.trans a.tape
  out := b.out.trans a.out
  size := Nat.le_trans a.size b.size
  frame := by
    intro i hi hb
    rw [b.frame i (Nat.lt_of_lt_of_le hi a.size) ?_, a.frame i hi hb]
    rcases hb with hb | hb
    · exact .inl hb
    · refine .inr fun hh => hb ?_
      rcases hh with ⟨c, k, p, h1, h2⟩ | ⟨c, h1⟩
      · rcases a.newr c k p h1 with h3 | ⟨_, h3 | ⟨k0, p0, h3, h4⟩⟩
        · exact .inl ⟨c, k, p, h3, h2⟩
        · omega
        · exact .inl ⟨c, k0, p0, h3, h4.trans h2⟩
      · rcases a.newo c i h1 with h3 | ⟨_, h3⟩
        · exact .inr ⟨c, h3⟩
        · omega
  newr := by
    intro c k p h1
    rcases b.newr c k p h1 with h2 | ⟨h2, h3⟩
    · exact a.newr c k p h2
    · refine .inr ⟨?_, ?_⟩
      · rcases h2 with h2 | ⟨k0, p0, h2⟩
        · exact .inl (Nat.le_trans a.len h2)
        · rcases a.newr c k0 p0 h2 with h4 | ⟨h4, _⟩
          · exact .inr ⟨k0, p0, h4⟩
          · exact h4
      · rcases h3 with h3 | ⟨k0, p0, h3, h4⟩
        · exact .inl (Nat.le_trans a.size h3)
        · rcases a.newr c k0 p0 h3 with h5 | ⟨_, h5 | ⟨k1, p1, h5, h6⟩⟩
          · exact .inr ⟨k0, p0, h5, h4⟩
          · exact .inl (h4 ▸ h5)
          · exact .inr ⟨k1, p1, h5, h6.trans h4⟩
  newo := by
    intro c i h1
    rcases b.newo c i h1 with h2 | ⟨h2, h3⟩
    · exact a.newo c i h2
    · exact .inr ⟨Nat.le_trans a.len h2, Nat.le_trans a.size h3⟩
  unpl := by
    intro c hc hn
    rw [b.unpl c (Nat.lt_of_lt_of_le hc a.len) ?_, a.unpl c hc hn]
    rintro (⟨k, p, h1⟩ | ⟨i, h1⟩)
    · rcases a.newr c k p h1 with h2 | ⟨h2 | ⟨k0, p0, h2⟩, _⟩
      · exact hn (.inl ⟨k, p, h2⟩)
      · omega
      · exact hn (.inl ⟨k0, p0, h2⟩)
    · rcases a.newo c i h1 with h2 | ⟨h2, _⟩
      · exact hn (.inr ⟨i, h2⟩)
      · omega
  len := Nat.le_trans a.len b.len

theorem StepR.below {F : Nat → Nat} {base : Nat} {m m' : Emb} {h h' : AH} {w w' : World} (a : StepR F base m h w m' h' w') (hb : base ≤ w.heap.size) : Below base w w' :=
  ⟨a.os, a.tape, a.out, a.size, fun i hi => a.frame i (Nat.lt_of_lt_of_le hi hb) (.inl hi)⟩

/-! ### Environments -/
def RelEnv (F : Nat → Nat) (m : Emb) (e : Env) (tmps : Array Value) : Prop := ∀ t, RelV F m (e.get t) (tmps.getD t undef)
theorem RelEnv.mono {F : Nat → Nat} {m m' : Emb} {e : Env} {tmps : Array Value} (hm : m.le m') (h : RelEnv F m e tmps) : RelEnv F m' e tmps := fun t => RelV.mono hm _ _ (h t)
theorem Env.get_set (e : Env) (t u : Nat) (v : AV) : (e.set t v).get u = if t = u then v else e.get u := by
  induction e with
  | nil => simp only [Env.set, Env.get]
  | cons x e ih =>
    obtain ⟨k, y⟩ := x
    simp only [Env.set]
    by_cases h : k = t
    · simp only [if_pos h, Env.get]; subst h; split <;> rfl
    · simp only [if_neg h]
      split
      · simp only [Env.get]
      · simp only [Env.get, ih]
        by_cases h1 : k = u
        · simp only [if_pos h1]; rw [if_neg]; omega
        · simp only [if_neg h1]
theorem Env.get_del (e : Env) (t u : Nat) : (e.del t).get u = if t = u then .undef else e.get u := by
  induction e with
  | nil => simp [Env.del, Env.get]
  | cons x e ih =>
    obtain ⟨k, y⟩ := x
    simp only [Env.del]
    by_cases h : k = t
    · simp only [if_pos h, ih, Env.get]; subst h; split <;> rfl
    · simp only [if_neg h, Env.get, ih]
      by_cases h1 : k = u
      · simp only [if_pos h1]; rw [if_neg]; omega
      · simp only [if_neg h1]
theorem RelEnv.del {F : Nat → Nat} {m : Emb} {e : Env} {tmps : Array Value} (h : RelEnv F m e tmps) (t : Nat) : RelEnv F m (e.del t) tmps := by
  intro u
  rw [Env.get_del]
  split
  · simp only [RelV]
  · exact h u
theorem RelEnv.dels {F : Nat → Nat} {m : Emb} {tmps : Array Value} : ∀ (ts : List Nat) {e : Env}, RelEnv F m e tmps → RelEnv F m (e.dels ts) tmps
  | [], _, h => h
  | t :: ts, _, h => RelEnv.dels ts (h.del t)
theorem getD_set (tmps : Array Value) (t u : Nat) (v : Value) : (tmps.setIfInBounds t v).getD u undef = if t = u ∧ t < tmps.size then v else tmps.getD u undef := by
  simp only [Array.getD_eq_getD_getElem?, Array.getElem?_setIfInBounds]
  by_cases h : t = u
  · subst h
    by_cases h2 : t < tmps.size <;> simp [h2]
  · simp [h]
theorem RelEnv.put {F : Nat → Nat} {m : Emb} {e : Env} {a : Act} (h : RelEnv F m e a.tmps) {r : AV} {v : Value} (hv : RelV F m r v) (d : Option Nat) (hd : ∀ t, d = some t → t < a.tmps.size) :
    RelEnv F m (Ab.put e d r) (a.put d v).tmps := by
  cases d with
  | none => exact h
  | some t =>
    intro u
    simp only [Ab.put, Act.put, Env.get_set]
    rw [getD_set]
    have := hd t rfl
    by_cases h1 : t = u
    · simp only [if_pos h1, if_pos (And.intro h1 this)]; exact hv
    · simp only [if_neg h1, h1, false_and, if_false]; exact h u
theorem init_get : ∀ (xs : List AV) (i t : Nat), (Env.init i xs).get t = if i ≤ t ∧ t < i + xs.length then xs.getD (t - i) .undef else .undef
  | [], i, t => by simp [Env.init, Env.get]
  | x :: xs, i, t => by
    simp only [Env.init, Env.get, init_get xs (i + 1) t, List.length_cons]
    by_cases h : i = t
    · subst h; simp
    · simp only [if_neg h]
      by_cases h1 : i + 1 ≤ t ∧ t < i + 1 + xs.length
      · rw [if_pos h1, if_pos (by omega)]
        obtain ⟨d, rfl⟩ : ∃ d, t = i + 1 + d := ⟨t - (i + 1), by omega⟩
        rw [show i + 1 + d - i = d + 1 by omega, show i + 1 + d - (i + 1) = d by omega]; simp
      · rw [if_neg h1, if_neg (by omega)]

end Go.Proofs.YtgdlaopjabjkbaaGreatDoor.Ab
