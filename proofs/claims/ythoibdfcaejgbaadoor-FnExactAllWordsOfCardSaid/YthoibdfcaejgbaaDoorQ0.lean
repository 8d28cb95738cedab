/- Part 1 of the proof of a law of the given program: the rules that it leans on, and what the functions that it reaches answer; the conditions stand with each theorem. -/
import Derived.Tactics
import Derived.WalkKit
import Derived.Lib.Bytealg
import Derived.Lib.SlTrimSet
import Derived.Lib.Join
import Derived.Lib.Repeat
set_option linter.unusedSimpArgs false
set_option linter.unusedVariables false
/- THE ABSTRACT MACHINE: values, heap, compact instructions, evaluator. No program in sight. -/
namespace Go.Proofs.YthoibdfcaejgbaaDoor.Ab
open Go

/-! ### Values and heap -/
inductive AV where
  | int (k : IntKind) (n : Int)
  | bool (b : Bool)
  | str (s : List UInt8)
  | nilS
  | empS
  | slice (c k off len esz : Nat)
  | nilP
  | ptr (c k off n : Nat)
  | nilM
  | map (c : Nat)
  | iter (c : Nat)
  | fn (f : Nat) (cap : List AV)
  | nilF
  | agg (xs : List AV)
  | tup (xs : List AV)
  | nilI
  | ifc
  | undef
  deriving Inhabited

inductive AO where
  | row (cs : List AV) (ver floor : Nat) (ro : Bool)
  | map (es : List (AV × AV))
  | iter (s : List UInt8) (pos : Nat)
  deriving Inhabited

abbrev AH := List AO

def AV.cells : AV → List AV
  | .agg xs => xs
  | v => [v]

/-- A value that fills one cell. -/
def AV.sc : AV → Bool
  | .agg _ | .tup _ | .undef => false
  | _ => true

def mkv (agg : Bool) (xs : List AV) : Option AV :=
  if agg then some (.agg xs) else match xs with
    | [v] => some v
    | _ => none

/-! ### Environments: slots that are known -/
abbrev Env := List (Nat × AV)
def Env.get : Env → Nat → AV
  | [], _ => .undef
  | (k, v) :: e, t => if k = t then v else Env.get e t
def Env.set : Env → Nat → AV → Env
  | [], t, v => [(t, v)]
  | (k, u) :: e, t, v => if k = t then (t, v) :: e else if t < k then (t, v) :: (k, u) :: e else (k, u) :: Env.set e t v
def Env.del : Env → Nat → Env
  | [], _ => []
  | (k, u) :: e, t => if k = t then Env.del e t else (k, u) :: Env.del e t
def Env.dels (e : Env) : List Nat → Env
  | [] => e
  | t :: ts => Env.dels (e.del t) ts
def Env.init : Nat → List AV → Env
  | _, [] => []
  | i, v :: vs => (i, v) :: Env.init (i + 1) vs

/-! ### Instructions -/
inductive Opd where
  | t (n : Nat)
  | c (v : AV)

inductive AOp where
  | mov (x : Opd)
  | pick (c a b : Opd)
  | bin (op : BinOp) (x y : Opd)
  | beq (neg : Bool) (x y : Opd)
  | aeq (neg : Bool) (kds : List Nat) (x y : Opd)
  | niq (neg : Bool) (kd : Nat) (x : Opd)
  | un (op : UnOp) (x : Opd)
  | conv (k : IntKind) (x : Opd)
  | toB (x : Opd)
  | ofB (x : Opd)
  | ofR (x : Opd)
  | new (zero : List AV)
  | box (x : Opd)
  | build (zero : List AV) (parts : List (Nat × Nat × Opd))
  | lit (esz len : Nat) (zero : List AV) (parts : List (Nat × Nat × Opd))
  | lit0
  | load (agg : Bool) (n : Nat) (a : Opd)
  | store (n : Nat) (a x : Opd)
  | nck (x : Opd)
  | faddr (off n : Nat) (a : Opd)
  | fld (agg : Bool) (off n : Nat) (x : Opd)
  | iaddr (esz : Nat) (x i : Opd)
  | iaddrA (len esz : Nat) (a i : Opd)
  | idx (agg : Bool) (len esz : Nat) (x i : Opd)
  | idxS (x i : Opd)
  | sub (esz : Nat) (x : Opd) (lo hi : Option Opd)
  | sub0 (x : Opd) (hi mx : Opd)
  | subS (x : Opd) (lo hi : Option Opd)
  | subA (len esz : Nat) (a : Opd) (lo hi : Option Opd)
  | make (esz : Nat) (zero : List AV) (len cap : Opd)
  | mkmap
  | mkfn (f : Nat) (caps : List Opd)
  | look (kd : Nat) (zero : AV) (ok : Bool) (m k : Opd)
  | mset (kd : Nat) (m k v : Opd)
  | mlen (m : Opd)
  | rng (x : Opd)
  | nxt (it : Opd)
  | prj (i : Nat) (x : Opd)
  | call (f : Nat) (xs : List Opd)
  | callv (x : Opd) (xs : List Opd)
  | lenS (x : Opd)
  | lenV (x : Opd)
  | app (esz : Nat) (s x : Opd)
  | appS (s x : Opd)
  | copy (esz : Nat) (d s : Opd)
  | clr (zero : List AV) (x : Opd)
  | mmx (max : Bool) (x y : Opd)

structure I where
  dst : Option Nat
  op : AOp
  grd : Option (Nat × Bool) := none

inductive C where
  | skip
  | reg (is : List I)
  | drw (is : List I) (ps : List (Nat × Nat))
  | kl (ts : List Nat) (c : C)
  | seq (a b : C)
  | cond (x : Opd) (a b : C)
  | blk (id : Nat) (c : C)
  | loop (c : C)
  | exit (id : Nat)
  | ret
  | bad

inductive Res where
  | tmp (t : Nat)
  | cell (agg : Bool) (n : Nat) (t : Nat)

structure FI where
  body : C
  res : List Res

/-! ### Memory -/
def room : Nat := 1099511627776

def rdRow (h : AH) (c k off n : Nat) : Option (List AV) :=
  match h[c]? with
  | some (.row cs ver fl _) => if fl ≤ k ∧ k ≤ ver ∧ off + n ≤ cs.length then some ((cs.drop off).take n) else none
  | _ => none

def splice {α : Type} (cs : List α) (off : Nat) (vs : List α) : List α := cs.take off ++ vs ++ cs.drop (off + vs.length)

def wrRow (h : AH) (c k off : Nat) (vs : List AV) : Option AH :=
  match h[c]? with
  | some (.row cs ver fl false) => if k = ver ∧ fl ≤ ver ∧ off + vs.length ≤ cs.length ∧ vs.all AV.sc = true then some (h.set c (.row (splice cs off vs) ver ver false)) else none
  | _ => none

def newRow (h : AH) (cs : List AV) : Option (Nat × AH) := if cs.all AV.sc = true then some (h.length, h ++ [.row cs 0 0 false]) else none

/-- What a slice or a string holds, cell by cell. -/
def cellsOf (h : AH) : AV → Option (List AV)
  | .nilS | .empS => some []
  | .slice c k off len esz => rdRow h c k off (len * esz)
  | .str s => some (s.map fun b => .int .u8 b.toNat)
  | _ => none

/-- append: of n elements, the cells vs. -/
def apRow (h : AH) (esz : Nat) (s : AV) (n : Nat) (vs : List AV) : Option (AV × AH) :=
  match s with
  | .nilS => if n = 0 then some (.nilS, h) else if n ≤ room then (newRow h vs).map fun (c, h') => (.slice c 0 0 n esz, h') else none
  | .empS => if n = 0 then some (.empS, h) else if n ≤ room then (newRow h vs).map fun (c, h') => (.slice c 0 0 n esz, h') else none
  | .slice c k off len e =>
    match h[c]? with
    | some (.row cs ver fl false) =>
      if e = esz ∧ k = ver ∧ off + len * esz = cs.length ∧ fl ≤ ver ∧ vs.all AV.sc = true ∧ len + n ≤ room then
        some (.slice c (ver + 1) off (len + n) esz, h.set c (.row (cs ++ vs) (ver + 1) fl false)) else none
    | _ => none
  | _ => none

/-! ### Keys of maps -/
def keyEq : AV → AV → Option Bool
  | .int k a, .int k' b => if k = k' then some (a == b) else none
  | .str a, .str b => some (a == b)
  | .bool a, .bool b => some (a == b)
  | _, _ => none
def keyIs : Nat → AV → Bool
  | 0, .int _ _ | 1, .str _ | 2, .bool _ => true
  | _, _ => false
def seqL : List Nat → List AV → List AV → Option Bool
  | [], [], [] => some true
  | kd :: kds, x :: xs, y :: ys => match keyIs kd x, keyEq x y, seqL kds xs ys with
    | true, some a, some b => some (a && b)
    | _, _, _ => none
  | _, _, _ => none

def mfind (k : AV) : List (AV × AV) → Option (Option AV)
  | [] => some none
  | (a, v) :: es => match keyEq k a with
    | some true => some (some v)
    | some false => mfind k es
    | none => none
def mput (k v : AV) : List (AV × AV) → List (AV × AV)
  | [] => [(k, v)]
  | (a, u) :: es => match keyEq k a with
    | some true => (k, v) :: es
    | _ => (a, u) :: mput k v es

/-! ### Operations -/
def two63 : Nat := 9223372036854775807
def binI (op : BinOp) (k : IntKind) (x y : Int) : Option AV :=
  match op with
  | .add => some (.int k (k.wrap (x + y)))
  | .sub => some (.int k (k.wrap (x - y)))
  | .mul => some (.int k (k.wrap (x * y)))
  | .quo => if y = 0 then none else some (.int k (k.wrap (x.tdiv y)))
  | .rem => if y = 0 then none else some (.int k (x.tmod y))
  | .and | .or | .xor | .andNot => some (.int k (bits op k x y))
  | .eql => some (.bool (x == y))
  | .neq => some (.bool (x != y))
  | .lss => some (.bool (decide (x < y)))
  | .leq => some (.bool (decide (x ≤ y)))
  | .gtr => some (.bool (decide (x > y)))
  | .geq => some (.bool (decide (x ≥ y)))
  | .shl | .shr => none
def binSh (op : BinOp) (k : IntKind) (x y : Int) : Option AV :=
  if y < 0 then none else match op with
  | .shl => some (.int k (k.wrap (x * 2 ^ (min y.toNat k.bits))))
  | .shr => some (.int k (x.fdiv (2 ^ (min y.toNat k.bits))))
  | _ => none
def binS (op : BinOp) (x y : List UInt8) : Option AV :=
  match op with
  | .add => if x.length + y.length ≤ two63 then some (.str (x ++ y)) else none
  | .eql => some (.bool (x == y))
  | .neq => some (.bool (!(x == y)))
  | .lss => some (.bool (Op.bytesLess x y))
  | .leq => some (.bool (Op.bytesLess x y || x == y))
  | .gtr => some (.bool (!(Op.bytesLess x y || x == y)))
  | .geq => some (.bool (!(Op.bytesLess x y)))
  | _ => none
def evBin (op : BinOp) : AV → AV → Option AV
  | .int k x, .int k' y => match op with
    | .shl | .shr => binSh op k x y
    | _ => if k = k' then binI op k x y else none
  | .str x, .str y => binS op x y
  | _, _ => none

def evNil : Nat → AV → Option Bool
  | 0, .nilS | 1, .nilP | 2, .nilM | 3, .nilF | 4, .nilI => some true
  | 0, .empS | 0, .slice .. | 1, .ptr .. | 2, .map _ | 3, .fn .. | 4, .ifc => some false
  | _, _ => none

def byte1 : AV → Option UInt8
  | .int .u8 n => some (UInt8.ofNat n.toNat)
  | _ => none
def bytesL : List AV → Option (List UInt8)
  | [] => some []
  | v :: vs => match byte1 v, bytesL vs with
    | some b, some bs => some (b :: bs)
    | _, _ => none

def fillP (cells : List AV) : List (Nat × Nat × AV) → Option (List AV)
  | [] => some cells
  | (off, n, v) :: rest => if v.cells.length = n ∧ off + n ≤ cells.length ∧ v.cells.all AV.sc = true then fillP (splice cells off v.cells) rest else none

def dec (s : List UInt8) (pos : Nat) : Int × Nat := let (c, w) := Utf8.decode ⟨s.toArray⟩ pos; (c, w)

def bnd (o : Option AV) (d top : Nat) : Option Nat :=
  match o with
  | none => some d
  | some (.int _ i) => if 0 ≤ i ∧ i ≤ top then some i.toNat else none
  | _ => none

abbrev CF := Nat → List AV → AH → Option (AV × AH)

def optv (ρ : Opd → AV) : Option Opd → Option AV
  | none => none
  | some x => some (ρ x)

def evOp (cf : CF) (ρ : Opd → AV) (h : AH) : AOp → Option (AV × AH)
  | .mov x => some (ρ x, h)
  | .pick c a b => match ρ c with
    | .bool t => some (if t then ρ a else ρ b, h)
    | _ => none
  | .bin op x y => (evBin op (ρ x) (ρ y)).map (·, h)
  | .beq neg x y => match ρ x, ρ y with
    | .bool a, .bool b => some (.bool (if neg then !(a == b) else a == b), h)
    | _, _ => none
  | .aeq neg kds x y => match ρ x, ρ y with
    | .agg xs, .agg ys => (seqL kds xs ys).map fun b => (.bool (if neg then !b else b), h)
    | _, _ => none
  | .niq neg kd x => (evNil kd (ρ x)).map fun b => (.bool (if neg then !b else b), h)
  | .un op x => match op, ρ x with
    | .neg, .int k n => some (.int k (k.wrap (0 - n)), h)
    | .not, .bool b => some (.bool (!b), h)
    | _, _ => none
  | .conv k x => match ρ x with
    | .int _ n => some (.int k (k.wrap n), h)
    | _ => none
  | .toB x => match ρ x with
    | .str s => if s.length ≤ room then (newRow h (s.map fun b => .int .u8 b.toNat)).map fun (c, h') => (.slice c 0 0 s.length 1, h') else none
    | _ => none
  | .ofB x => match ρ x with
    | .nilS | .empS => some (.str [], h)
    | .slice c k off len e => if e = 1 then match rdRow h c k off len with
        | some cs => (bytesL cs).map fun s => (.str s, h)
        | none => none
      else none
    | _ => none
  | .ofR x => match ρ x with
    | .int _ n => some (.str (Utf8.encode n).data.toList, h)
    | _ => none
  | .new zero => (newRow h zero).map fun (c, h') => (.ptr c 0 0 zero.length, h')
  | .box x => match ρ x with
    | .undef | .tup _ => none
    | v => (newRow h v.cells).map fun (c, h') => (.ptr c 0 0 v.cells.length, h')
  | .build zero parts => (fillP zero (parts.map fun (o, n, x) => (o, n, ρ x))).map fun cs => (.agg cs, h)
  | .lit esz len zero parts => match fillP zero (parts.map fun (o, n, x) => (o, n, ρ x)) with
    | some cs => (newRow h cs).map fun (c, h') => (.slice c 0 0 len esz, h')
    | none => none
  | .lit0 => some (.empS, h)
  | .load agg n a => match ρ a with
    | .ptr c k off m => if n ≤ m then match rdRow h c k off n with
        | some cs => (mkv agg cs).map (·, h)
        | none => none
      else none
    | _ => none
  | .store n a x => match ρ a with
    | .ptr c k off m => if n ≤ m ∧ (ρ x).cells.length = n then (wrRow h c k off (ρ x).cells).map fun h' => (.undef, h') else none
    | _ => none
  | .nck x => match ρ x with
    | .ptr c k off n => some (.ptr c k off n, h)
    | .fn f cs => some (.fn f cs, h)
    | _ => none
  | .faddr off n a => match ρ a with
    | .ptr c k o m => if off + n ≤ m then some (.ptr c k (o + off) n, h) else none
    | _ => none
  | .fld agg off n x => match ρ x with
    | .agg xs => if off + n ≤ xs.length then (mkv agg ((xs.drop off).take n)).map (·, h) else none
    | _ => none
  | .iaddr esz x i => match ρ x, ρ i with
    | .slice c k off len e, .int _ j => if e = esz ∧ 0 ≤ j ∧ j < len then some (.ptr c k (off + j.toNat * esz) esz, h) else none
    | _, _ => none
  | .iaddrA len esz a i => match ρ a, ρ i with
    | .ptr c k off m, .int _ j => if len * esz ≤ m ∧ 0 ≤ j ∧ j < len then some (.ptr c k (off + j.toNat * esz) esz, h) else none
    | _, _ => none
  | .idx agg len esz x i => match ρ x, ρ i with
    | .agg xs, .int _ j => if xs.length = len * esz ∧ 0 ≤ j ∧ j < len then (mkv agg ((xs.drop (j.toNat * esz)).take esz)).map (·, h) else none
    | _, _ => none
  | .idxS x i => match ρ x, ρ i with
    | .str s, .int _ j => if 0 ≤ j ∧ j < s.length then some (.int .u8 (s.getD j.toNat 0).toNat, h) else none
    | _, _ => none
  | .sub esz x lo hi => match ρ x with
    | .nilS => match bnd (optv ρ hi) 0 0 with
      | some b => match bnd (optv ρ lo) 0 b with
        | some _ => some (.nilS, h)
        | none => none
      | none => none
    | .empS => match bnd (optv ρ hi) 0 0 with
      | some b => match bnd (optv ρ lo) 0 b with
        | some _ => some (.empS, h)
        | none => none
      | none => none
    | .slice c k off len e => if e = esz then match bnd (optv ρ hi) len len with
        | some b => match bnd (optv ρ lo) 0 b with
          | some a => some (.slice c k (off + a * esz) (b - a) esz, h)
          | none => none
        | none => none
      else none
    | _ => none
  | .sub0 x hi mx => match ρ x, ρ hi, ρ mx with
    | .nilS, .int _ 0, .int _ 0 => some (.nilS, h)
    | .empS, .int _ 0, .int _ 0 => some (.empS, h)
    | .slice .., .int _ 0, .int _ 0 => some (.empS, h)
    | _, _, _ => none
  | .subS x lo hi => match ρ x with
    | .str s => match bnd (optv ρ hi) s.length s.length with
      | some b => match bnd (optv ρ lo) 0 b with
        | some a => some (.str ((s.drop a).take (b - a)), h)
        | none => none
      | none => none
    | _ => none
  | .subA len esz a lo hi => match ρ a with
    | .ptr c k off m => if len * esz ≤ m ∧ (rdRow h c k off (len * esz)).isSome = true then match bnd (optv ρ hi) len len with
        | some b => match bnd (optv ρ lo) 0 b with
          | some a => some (.slice c k (off + a * esz) (b - a) esz, h)
          | none => none
        | none => none
      else none
    | _ => none
  | .make esz zero len cap => match ρ len, ρ cap with
    | .int _ n, .int _ m => if 0 ≤ n ∧ n ≤ m ∧ m ≤ room ∧ zero.length = esz then
        (newRow h (List.replicate n.toNat zero).flatten).map fun (c, h') => (.slice c 0 0 n.toNat esz, h') else none
    | _, _ => none
  | .mkmap => some (.map h.length, h ++ [.map []])
  | .mkfn f caps => some (.fn f (caps.map ρ), h)
  | .look kd zero ok m k => if keyIs kd (ρ k) = true then match (match ρ m with
      | .nilM => some []
      | .map c => match h[c]? with
        | some (.map es) => some es
        | _ => none
      | _ => none) with
    | some es => match mfind (ρ k) es with
      | some (some v) => some (if ok then .tup [v, .bool true] else v, h)
      | some none => some (if ok then .tup [zero, .bool false] else zero, h)
      | none => none
    | none => none
    else none
  | .mset kd m k v => if keyIs kd (ρ k) = true then match ρ m with
    | .map c => match h[c]? with
      | some (.map es) => match mfind (ρ k) es with
        | some _ => match ρ v with
          | .undef => none
          | u => some (.undef, h.set c (.map (mput (ρ k) u es)))
        | none => none
      | _ => none
    | _ => none
    else none
  | .mlen m => match ρ m with
    | .nilM => some (.int .i64 0, h)
    | .map c => match h[c]? with
      | some (.map es) => some (.int .i64 es.length, h)
      | _ => none
    | _ => none
  | .rng x => match ρ x with
    | .str s => some (.iter h.length, h ++ [.iter s 0])
    | _ => none
  | .nxt it => match ρ it with
    | .iter c => match h[c]? with
      | some (.iter s pos) => if pos < s.length then
          some (.tup [.bool true, .int .i64 pos, .int .i32 (dec s pos).1], h.set c (.iter s (pos + (dec s pos).2)))
        else some (.tup [.bool false], h)
      | _ => none
    | _ => none
  | .prj i x => match ρ x with
    | .tup vs => (vs[i]?).map (·, h)
    | _ => none
  | .call f xs => cf f (xs.map ρ) h
  | .callv x xs => match ρ x with
    | .fn f cap => cf f (xs.map ρ ++ cap) h
    | _ => none
  | .lenS x => match ρ x with
    | .str s => some (.int .i64 s.length, h)
    | _ => none
  | .lenV x => match ρ x with
    | .nilS | .empS => some (.int .i64 0, h)
    | .slice _ _ _ len _ => some (.int .i64 len, h)
    | _ => none
  | .app esz s x => match ρ x with
    | .nilS | .empS => apRow h esz (ρ s) 0 []
    | .slice c k off len e => if e = esz then match rdRow h c k off (len * esz) with
        | some vs => apRow h esz (ρ s) len vs
        | none => none
      else none
    | _ => none
  | .appS s x => match ρ x with
    | .str b => apRow h 1 (ρ s) b.length (b.map fun b => .int .u8 b.toNat)
    | _ => none
  | .copy esz d s => match ρ d, ρ s with
    | .slice c k off len e, .slice c' k' off' len' e' => if e = esz ∧ e' = esz then
        if min len' len = 0 then some (.int .i64 0, h) else match rdRow h c' k' off' (min len' len * esz) with
        | some vs => (wrRow h c k off vs).map fun h' => (.int .i64 ((min len' len : Nat) : Int), h')
        | none => none
      else none
    | _, _ => none
  | .clr zero x => match ρ x with
    | .nilS | .empS => some (.tup [], h)
    | .slice c k off len e => if e = zero.length then
        if len = 0 then some (.tup [], h) else (wrRow h c k off (List.replicate len zero).flatten).map fun h' => (.tup [], h')
      else none
    | _ => none
  | .mmx mx x y => match ρ x, ρ y with
    | .int k a, .int k' b => if k = k' then some (.int k (if mx then (if b > a then b else a) else (if b < a then b else a)), h) else none
    | .str a, .str b => if mx then none else some (.str (if (Op.bytesLess a b || a == b) then a else b), h)
    | _, _ => none

def env (e : Env) : Opd → AV
  | .t n => e.get n
  | .c v => v

def put (e : Env) (d : Option Nat) (v : AV) : Env :=
  match d with
  | some t => e.set t v
  | none => e

def evI (cf : CF) (i : I) (e : Env) (h : AH) : Option (Env × AH) :=
  match i.grd with
  | none => (evOp cf (env e) h i.op).map fun (v, h') => (put e i.dst v, h')
  | some (t, want) => match e.get t with
    | .bool b => if b = want then (evOp cf (env e) h i.op).map fun (v, h') => (put e i.dst v, h') else some (put e i.dst (.tup []), h)
    | .tup [] => some (put e i.dst (.tup []), h)
    | _ => none

def evR (cf : CF) : List I → Env → AH → Option (Env × AH)
  | [], e, h => some (e, h)
  | i :: is, e, h => match evI cf i e h with
    | some (e', h') => evR cf is e' h'
    | none => none

inductive X where
  | normal
  | exit (id : Nat)
  | ret

/-- The state before operation i of a region. -/
def stateAt (cf : CF) (is : List I) (i : Nat) (e : Env) (h : AH) : Option (Env × AH) := evR cf (is.take i) e h

def noCall : CF := fun _ _ _ => none

/-- What operation j reads does not turn by operation i. -/
def Stable (cf : CF) (is : List I) (e : Env) (h : AH) (j i : Nat) : Prop :=
  ∀ o e1 h1 e2 h2 e3 h3, is[j]? = some o → stateAt cf is j e h = some (e1, h1) → stateAt cf is i e h = some (e2, h2) → stateAt cf is (i + 1) e h = some (e3, h3) →
    (evOp noCall (env e1) h2 o.op).map (·.1) = (evOp noCall (env e1) h3 o.op).map (·.1)

open Classical in
noncomputable def evDraw (cf : CF) (is : List I) (ps : List (Nat × Nat)) (e : Env) (h : AH) : Option (Env × AH) :=
  if ∀ p ∈ ps, Stable cf is e h p.1 p.2 then evR cf is e h else none

def evLoop (step : Env → AH → Option (X × Env × AH)) : Nat → Env → AH → Option (X × Env × AH)
  | 0, _, _ => none
  | n + 1, e, h => match step e h with
    | some (.normal, e', h') => evLoop step n e' h'
    | r => r

noncomputable def evC (cf : CF) (n : Nat) : C → Env → AH → Option (X × Env × AH)
  | .skip, e, h => some (.normal, e, h)
  | .reg is, e, h => (evR cf is e h).map fun (e', h') => (.normal, e', h')
  | .drw is ps, e, h => (evDraw cf is ps e h).map fun (e', h') => (.normal, e', h')
  | .kl ts c, e, h => evC cf n c (e.dels ts) h
  | .seq a b, e, h => match evC cf n a e h with
    | some (.normal, e', h') => evC cf n b e' h'
    | r => r
  | .cond x a b, e, h => match env e x with
    | .bool t => if t then evC cf n a e h else evC cf n b e h
    | _ => none
  | .blk id c, e, h => match evC cf n c e h with
    | some (.exit id', e', h') => if id' = id then some (.normal, e', h') else some (.exit id', e', h')
    | r => r
  | .loop c, e, h => evLoop (evC cf n c) n e h
  | .exit id, e, h => some (.exit id, e, h)
  | .ret, e, h => some (.ret, e, h)
  | .bad, _, _ => none

def res1 (e : Env) (h : AH) : Res → Option AV
  | .tmp t => some (e.get t)
  | .cell agg n t => match e.get t with
    | .ptr c k off m => if n ≤ m then match rdRow h c k off n with
        | some cs => mkv agg cs
        | none => none
      else none
    | _ => none
def resL (e : Env) (h : AH) : List Res → Option (List AV)
  | [] => some []
  | r :: rs => match res1 e h r, resL e h rs with
    | some v, some vs => some (v :: vs)
    | _, _ => none
def resV (e : Env) (h : AH) (rs : List Res) : Option AV :=
  match resL e h rs with
  | some [v] => some v
  | some vs => some (.tup vs)
  | none => none

abbrev Ext := Nat → Option (CF → List AV → AH → Option (AV × AH))

noncomputable def evF (T : Nat → Option FI) (E : Ext) : Nat → CF
  | 0 => fun _ _ _ => none
  | n + 1 => fun f xs h => match E f with
    | some F => F (evF T E n) xs h
    | none => match T f with
      | some fi => match evC (evF T E n) n fi.body (Env.init 0 xs) h with
        | some (.normal, e, h') => (resV e h' fi.res).map (·, h')
        | some (.ret, e, h') => (resV e h' fi.res).map (·, h')
        | _ => none
      | none => none

end Go.Proofs.YthoibdfcaejgbaaDoor.Ab

/- BODIES of functions as compact literals, written by gen.py. -/
namespace Go.Proofs.YthoibdfcaejgbaaDoor.Ab
open Go

/-- laws.FnExactAllWordsOf -/
def fi52 : FI := ⟨.seq (.reg [⟨some 4, .mov (.c (.bool false)), none⟩]) (.kl [4] (.seq (.seq (.reg [⟨some 13, .mov (.t 0), none⟩, ⟨some 14, .lenS (.t 13), none⟩, ⟨some 15, .bin .gtr (.t 14) (.c (.int .i64 1048576)), none⟩]) (.kl [13, 14] (.cond (.t 15) (.kl [0, 1, 15] (.seq (.reg [⟨some 4, .mov (.c (.bool true)), none⟩]) (.ret))) (.skip)))) (.kl [15] (.seq (.reg [⟨some 17, .mov (.t 0), none⟩, ⟨some 18, .mov (.t 1), none⟩, ⟨some 19, .call 51 [.t 17, .t 18], none⟩, ⟨some 16, .mov (.t 19), none⟩, ⟨some 20, .prj 0 (.t 16), none⟩, ⟨some 21, .prj 1 (.t 16), none⟩, ⟨some 5, .mov (.t 20), none⟩, ⟨some 6, .mov (.t 21), none⟩]) (.kl [16, 17, 18, 19, 20, 21] (.seq (.reg [⟨some 23, .mov (.t 0), none⟩, ⟨some 24, .mov (.t 1), none⟩, ⟨some 25, .call 49 [.t 23, .t 24], none⟩, ⟨some 22, .mov (.t 25), none⟩, ⟨some 26, .prj 0 (.t 22), none⟩, ⟨some 27, .prj 1 (.t 22), none⟩, ⟨some 7, .mov (.t 26), none⟩, ⟨some 8, .mov (.t 27), none⟩]) (.kl [22, 23, 24, 25, 26, 27] (.seq (.seq (.reg [⟨some 28, .mov (.t 7), none⟩, ⟨some 29, .mov (.t 5), none⟩, ⟨some 30, .call 48 [.t 28, .t 29], none⟩, ⟨some 31, .un .not (.t 30), none⟩, ⟨some 32, .mov (.t 31), none⟩, ⟨some 33, .mov (.t 8), some (32, false)⟩, ⟨some 34, .mov (.t 6), some (32, false)⟩, ⟨some 35, .beq true (.t 33) (.t 34), some (32, false)⟩, ⟨some 36, .pick (.t 32) (.c (.bool true)) (.t 35), none⟩]) (.kl [8, 28, 29, 30, 31, 32, 33, 34, 35] (.cond (.t 36) (.kl [0, 1, 5, 6, 7, 36] (.seq (.reg [⟨some 4, .mov (.c (.bool false)), none⟩]) (.ret))) (.skip)))) (.kl [36] (.seq (.reg [⟨some 9, .mov (.c (.int .i64 1)), none⟩]) (.seq (.reg [⟨some 37, .mov (.t 7), none⟩, ⟨some 38, .mov (.t 9), none⟩, ⟨some 39, .call 50 [.t 37, .t 38], none⟩, ⟨some 9, .mov (.t 39), none⟩]) (.kl [37, 38, 39] (.seq (.reg [⟨some 10, .mov (.c (.int .i64 1)), none⟩]) (.seq (.reg [⟨some 40, .mov (.t 7), none⟩, ⟨some 41, .mov (.t 10), none⟩, ⟨some 42, .call 47 [.t 40, .t 41], none⟩, ⟨some 10, .mov (.t 42), none⟩]) (.kl [40, 41, 42] (.seq (.seq (.reg [⟨some 43, .mov (.t 10), none⟩, ⟨some 44, .bin .lss (.t 43) (.c (.int .i64 0)), none⟩]) (.kl [43] (.cond (.t 44) (.kl [0, 1, 5, 6, 7, 9, 10, 44] (.seq (.reg [⟨some 4, .mov (.c (.bool false)), none⟩]) (.ret))) (.skip)))) (.kl [44] (.seq (.seq (.reg [⟨some 45, .mov (.t 10), none⟩, ⟨some 46, .mov (.t 9), none⟩, ⟨some 47, .bin .neq (.t 45) (.t 46), none⟩]) (.kl [10, 45, 46] (.cond (.t 47) (.kl [0, 1, 5, 6, 7, 9, 47] (.seq (.reg [⟨some 4, .mov (.c (.bool false)), none⟩]) (.ret))) (.skip)))) (.kl [47] (.seq (.reg [⟨some 49, .mov (.t 0), none⟩, ⟨some 50, .mov (.t 1), none⟩, ⟨some 51, .call 49 [.t 49, .t 50], none⟩, ⟨some 48, .mov (.t 51), none⟩, ⟨some 52, .prj 0 (.t 48), none⟩, ⟨some 53, .prj 1 (.t 48), none⟩, ⟨some 11, .mov (.t 52), none⟩, ⟨some 12, .mov (.t 53), none⟩]) (.kl [0, 1, 48, 49, 50, 51, 52, 53] (.seq (.seq (.reg [⟨some 54, .mov (.t 11), none⟩, ⟨some 55, .mov (.t 5), none⟩, ⟨some 56, .call 48 [.t 54, .t 55], none⟩, ⟨some 57, .un .not (.t 56), none⟩, ⟨some 58, .mov (.t 57), none⟩, ⟨some 59, .mov (.t 12), some (58, false)⟩, ⟨some 60, .mov (.t 6), some (58, false)⟩, ⟨some 61, .beq true (.t 59) (.t 60), some (58, false)⟩, ⟨some 62, .pick (.t 58) (.c (.bool true)) (.t 61), none⟩]) (.kl [5, 6, 11, 12, 54, 55, 56, 57, 58, 59, 60, 61] (.cond (.t 62) (.kl [7, 9, 62] (.seq (.reg [⟨some 4, .mov (.c (.bool false)), none⟩]) (.ret))) (.skip)))) (.kl [62] (.seq (.reg [⟨some 10, .mov (.c (.int .i64 1)), none⟩]) (.seq (.reg [⟨some 63, .mov (.t 7), none⟩, ⟨some 64, .mov (.t 10), none⟩, ⟨some 65, .call 47 [.t 63, .t 64], none⟩, ⟨some 10, .mov (.t 65), none⟩]) (.kl [7, 63, 64, 65] (.seq (.seq (.reg [⟨some 66, .mov (.t 10), none⟩, ⟨some 67, .bin .lss (.t 66) (.c (.int .i64 0)), none⟩]) (.kl [66] (.cond (.t 67) (.kl [9, 10, 67] (.seq (.reg [⟨some 4, .mov (.c (.bool false)), none⟩]) (.ret))) (.skip)))) (.kl [67] (.seq (.seq (.reg [⟨some 68, .mov (.t 10), none⟩, ⟨some 69, .mov (.t 9), none⟩, ⟨some 70, .bin .neq (.t 68) (.t 69), none⟩]) (.kl [9, 10, 68, 69] (.cond (.t 70) (.kl [70] (.seq (.reg [⟨some 4, .mov (.c (.bool false)), none⟩]) (.ret))) (.skip)))) (.kl [70] (.seq (.reg [⟨some 4, .mov (.c (.bool true)), none⟩]) (.ret)))))))))))))))))))))))))))))))), [.tmp 4]⟩
/-- laws.FnExactLiveMoves -/
def fi224 : FI := ⟨.seq (.reg [⟨some 2, .mov (.c (.bool false)), none⟩]) (.kl [2] (.seq (.seq (.reg [⟨some 11, .mov (.t 0), none⟩, ⟨some 12, .lenS (.t 11), none⟩, ⟨some 13, .bin .gtr (.t 12) (.c (.int .i64 1048576)), none⟩]) (.kl [11, 12] (.cond (.t 13) (.kl [0, 13] (.seq (.reg [⟨some 2, .mov (.c (.bool true)), none⟩]) (.ret))) (.skip)))) (.kl [13] (.seq (.reg [⟨some 15, .mov (.t 0), none⟩, ⟨some 16, .call 225 [.t 15], none⟩, ⟨some 14, .mov (.t 16), none⟩, ⟨some 17, .prj 0 (.t 14), none⟩, ⟨some 18, .prj 1 (.t 14), none⟩, ⟨some 3, .mov (.t 17), none⟩, ⟨some 4, .mov (.t 18), none⟩]) (.kl [14, 15, 16, 17, 18] (.seq (.reg [⟨some 20, .mov (.t 0), none⟩, ⟨some 21, .call 226 [.t 20], none⟩, ⟨some 19, .mov (.t 21), none⟩, ⟨some 22, .prj 0 (.t 19), none⟩, ⟨some 23, .prj 1 (.t 19), none⟩, ⟨some 5, .mov (.t 22), none⟩, ⟨some 6, .mov (.t 23), none⟩]) (.kl [19, 20, 21, 22, 23] (.seq (.seq (.reg [⟨some 24, .mov (.t 5), none⟩, ⟨some 25, .mov (.t 3), none⟩, ⟨some 26, .call 227 [.t 24, .t 25], none⟩, ⟨some 27, .un .not (.t 26), none⟩, ⟨some 28, .mov (.t 27), none⟩, ⟨some 29, .mov (.t 6), some (28, false)⟩, ⟨some 30, .mov (.t 4), some (28, false)⟩, ⟨some 31, .beq true (.t 29) (.t 30), some (28, false)⟩, ⟨some 32, .pick (.t 28) (.c (.bool true)) (.t 31), none⟩]) (.kl [6, 24, 25, 26, 27, 28, 29, 30, 31] (.cond (.t 32) (.kl [0, 3, 4, 5, 32] (.seq (.reg [⟨some 2, .mov (.c (.bool false)), none⟩]) (.ret))) (.skip)))) (.kl [32] (.seq (.reg [⟨some 7, .mov (.c (.int .i64 1)), none⟩]) (.seq (.reg [⟨some 33, .mov (.t 5), none⟩, ⟨some 34, .mov (.t 7), none⟩, ⟨some 35, .call 228 [.t 33, .t 34], none⟩, ⟨some 7, .mov (.t 35), none⟩]) (.kl [33, 34, 35] (.seq (.reg [⟨some 8, .mov (.c (.int .i64 1)), none⟩]) (.seq (.reg [⟨some 36, .mov (.t 5), none⟩, ⟨some 37, .mov (.t 8), none⟩, ⟨some 38, .call 229 [.t 36, .t 37], none⟩, ⟨some 8, .mov (.t 38), none⟩]) (.kl [36, 37, 38] (.seq (.seq (.reg [⟨some 39, .mov (.t 8), none⟩, ⟨some 40, .bin .lss (.t 39) (.c (.int .i64 0)), none⟩]) (.kl [39] (.cond (.t 40) (.kl [0, 3, 4, 5, 7, 8, 40] (.seq (.reg [⟨some 2, .mov (.c (.bool false)), none⟩]) (.ret))) (.skip)))) (.kl [40] (.seq (.seq (.reg [⟨some 41, .mov (.t 8), none⟩, ⟨some 42, .mov (.t 7), none⟩, ⟨some 43, .bin .neq (.t 41) (.t 42), none⟩]) (.kl [8, 41, 42] (.cond (.t 43) (.kl [0, 3, 4, 5, 7, 43] (.seq (.reg [⟨some 2, .mov (.c (.bool false)), none⟩]) (.ret))) (.skip)))) (.kl [43] (.seq (.reg [⟨some 45, .mov (.t 0), none⟩, ⟨some 46, .call 226 [.t 45], none⟩, ⟨some 44, .mov (.t 46), none⟩, ⟨some 47, .prj 0 (.t 44), none⟩, ⟨some 48, .prj 1 (.t 44), none⟩, ⟨some 9, .mov (.t 47), none⟩, ⟨some 10, .mov (.t 48), none⟩]) (.kl [0, 44, 45, 46, 47, 48] (.seq (.seq (.reg [⟨some 49, .mov (.t 9), none⟩, ⟨some 50, .mov (.t 3), none⟩, ⟨some 51, .call 227 [.t 49, .t 50], none⟩, ⟨some 52, .un .not (.t 51), none⟩, ⟨some 53, .mov (.t 52), none⟩, ⟨some 54, .mov (.t 10), some (53, false)⟩, ⟨some 55, .mov (.t 4), some (53, false)⟩, ⟨some 56, .beq true (.t 54) (.t 55), some (53, false)⟩, ⟨some 57, .pick (.t 53) (.c (.bool true)) (.t 56), none⟩]) (.kl [3, 4, 9, 10, 49, 50, 51, 52, 53, 54, 55, 56] (.cond (.t 57) (.kl [5, 7, 57] (.seq (.reg [⟨some 2, .mov (.c (.bool false)), none⟩]) (.ret))) (.skip)))) (.kl [57] (.seq (.reg [⟨some 8, .mov (.c (.int .i64 1)), none⟩]) (.seq (.reg [⟨some 58, .mov (.t 5), none⟩, ⟨some 59, .mov (.t 8), none⟩, ⟨some 60, .call 229 [.t 58, .t 59], none⟩, ⟨some 8, .mov (.t 60), none⟩]) (.kl [5, 58, 59, 60] (.seq (.seq (.reg [⟨some 61, .mov (.t 8), none⟩, ⟨some 62, .bin .lss (.t 61) (.c (.int .i64 0)), none⟩]) (.kl [61] (.cond (.t 62) (.kl [7, 8, 62] (.seq (.reg [⟨some 2, .mov (.c (.bool false)), none⟩]) (.ret))) (.skip)))) (.kl [62] (.seq (.seq (.reg [⟨some 63, .mov (.t 8), none⟩, ⟨some 64, .mov (.t 7), none⟩, ⟨some 65, .bin .neq (.t 63) (.t 64), none⟩]) (.kl [7, 8, 63, 64] (.cond (.t 65) (.kl [65] (.seq (.reg [⟨some 2, .mov (.c (.bool false)), none⟩]) (.ret))) (.skip)))) (.kl [65] (.seq (.reg [⟨some 2, .mov (.c (.bool true)), none⟩]) (.ret)))))))))))))))))))))))))))))))), [.tmp 2]⟩
/-- spec.AllWordsOf -/
def fi51 : FI := ⟨.seq (.reg [⟨some 4, .mov (.c (.nilS)), none⟩, ⟨some 5, .mov (.c (.bool false)), none⟩]) (.kl [4, 5] (.seq (.seq (.reg [⟨some 6, .mov (.t 0), none⟩, ⟨some 7, .call 94 [.t 6], none⟩, ⟨some 8, .un .not (.t 7), none⟩, ⟨some 9, .mov (.t 8), none⟩, ⟨some 10, .mov (.t 1), some (9, false)⟩, ⟨some 11, .call 77 [.t 10, .c (.int .i64 0), .c (.int .i64 40)], some (9, false)⟩, ⟨some 12, .un .not (.t 11), some (9, false)⟩, ⟨some 13, .pick (.t 9) (.c (.bool true)) (.t 12), none⟩, ⟨some 14, .mov (.t 13), none⟩, ⟨some 15, .mov (.t 0), some (14, false)⟩, ⟨some 16, .mov (.t 1), some (14, false)⟩, ⟨some 17, .call 95 [.t 15, .t 16], some (14, false)⟩, ⟨some 18, .bin .gtr (.t 17) (.c (.int .i64 300)), some (14, false)⟩, ⟨some 19, .pick (.t 14) (.c (.bool true)) (.t 18), none⟩]) (.kl [6, 7, 8, 9, 10, 11, 12, 13, 14, 15, 16, 17, 18] (.cond (.t 19) (.kl [0, 1, 19] (.seq (.reg [⟨some 4, .mov (.c (.nilS)), none⟩, ⟨some 5, .mov (.c (.bool false)), none⟩]) (.ret))) (.skip)))) (.kl [19] (.seq (.reg [⟨some 20, .mov (.t 0), none⟩, ⟨some 21, .mov (.t 1), none⟩, ⟨some 22, .call 93 [.t 20, .t 21], none⟩, ⟨some 4, .mov (.t 22), none⟩, ⟨some 5, .mov (.c (.bool true)), none⟩]) (.kl [0, 1, 20, 21, 22] (.ret)))))), [.tmp 4, .tmp 5]⟩
/-- impl.AllWordsOf -/
def fi49 : FI := ⟨.seq (.reg [⟨some 3, .box (.t 1), none⟩, ⟨some 4, .mov (.c (.nilS)), none⟩, ⟨some 5, .mov (.c (.bool false)), none⟩]) (.kl [1, 4, 5] (.seq (.seq (.reg [⟨some 12, .mov (.t 0), none⟩, ⟨some 13, .load false 1 (.t 3), none⟩, ⟨some 14, .call 97 [.t 12, .t 13], none⟩, ⟨some 11, .mov (.t 14), none⟩, ⟨some 15, .prj 0 (.t 11), none⟩, ⟨some 16, .prj 1 (.t 11), none⟩, ⟨some 6, .mov (.t 15), none⟩, ⟨some 7, .mov (.t 16), none⟩]) (.kl [11, 12, 13, 14, 15, 16] (.seq (.reg [⟨some 17, .mov (.t 7), none⟩, ⟨some 18, .un .not (.t 17), none⟩, ⟨some 19, .mov (.t 18), none⟩, ⟨some 20, .mov (.t 6), some (19, false)⟩, ⟨some 21, .bin .gtr (.t 20) (.c (.int .i64 300)), some (19, false)⟩, ⟨some 22, .pick (.t 19) (.c (.bool true)) (.t 21), none⟩]) (.kl [6, 7, 17, 18, 19, 20, 21] (.cond (.t 22) (.kl [0, 3, 22] (.seq (.reg [⟨some 4, .mov (.c (.nilS)), none⟩, ⟨some 5, .mov (.c (.bool false)), none⟩]) (.ret))) (.skip)))))) (.kl [22] (.seq (.reg [⟨some 23, .mkmap, none⟩, ⟨some 24, .lit0, none⟩, ⟨some 8, .new [.nilM], none⟩, ⟨some 9, .new [.nilS], none⟩, ⟨none, .store 1 (.t 8) (.t 23), none⟩, ⟨none, .store 1 (.t 9) (.t 24), none⟩]) (.kl [23, 24] (.seq (.reg [⟨some 10, .new [.nilF], none⟩]) (.seq (.reg [⟨some 25, .mkfn 96 [.t 3, .t 9, .t 8, .t 10], none⟩, ⟨none, .store 1 (.t 10) (.t 25), none⟩]) (.kl [3, 8, 25] (.seq (.reg [⟨some 26, .load false 1 (.t 10), none⟩, ⟨some 27, .mov (.t 0), none⟩, ⟨some 28, .callv (.t 26) [.t 27, .c (.str [])], none⟩]) (.kl [0, 10, 26, 27, 28] (.seq (.reg [⟨some 29, .load false 1 (.t 9), none⟩, ⟨some 4, .mov (.t 29), none⟩, ⟨some 5, .mov (.c (.bool true)), none⟩]) (.kl [9, 29] (.ret))))))))))))), [.tmp 4, .tmp 5]⟩
-- lp48_0 HEAD [0, 1, 5] | exit 0: [] | ret: [4]
/-- laws.eqStringS -/
def lb48_0 : C := .kl [15, 16] (.seq (.seq (.reg [⟨some 11, .mov (.t 5), none⟩, ⟨some 12, .mov (.t 0), none⟩, ⟨some 13, .lenV (.t 12), none⟩, ⟨some 14, .bin .lss (.t 11) (.t 13), none⟩]) (.kl [11, 12, 13] (.cond (.t 14) (.skip) (.kl [0, 1, 5, 14] (.exit 0))))) (.kl [14] (.seq (.blk 1 (.seq (.drw [⟨some 17, .mov (.t 0), none⟩, ⟨some 18, .mov (.t 5), none⟩, ⟨some 19, .iaddr 1 (.t 17) (.t 18), none⟩, ⟨some 20, .load false 1 (.t 19), none⟩, ⟨some 21, .mov (.t 1), none⟩, ⟨some 22, .mov (.t 5), none⟩, ⟨some 23, .iaddr 1 (.t 21) (.t 22), none⟩, ⟨some 24, .load false 1 (.t 23), none⟩, ⟨some 25, .bin .neq (.t 20) (.t 24), none⟩] []) (.kl [17, 18, 19, 20, 21, 22, 23, 24] (.cond (.t 25) (.kl [0, 1, 5, 25] (.seq (.reg [⟨some 4, .mov (.c (.bool false)), none⟩]) (.ret))) (.skip))))) (.kl [25] (.reg [⟨some 15, .mov (.t 5), none⟩, ⟨some 16, .bin .add (.t 15) (.c (.int .i64 1)), none⟩, ⟨some 5, .mov (.t 16), none⟩])))))
def lp48_0 : C := lb48_0
def fi48 : FI := ⟨.seq (.reg [⟨some 4, .mov (.c (.bool false)), none⟩]) (.kl [4] (.seq (.seq (.reg [⟨some 6, .mov (.t 0), none⟩, ⟨some 7, .lenV (.t 6), none⟩, ⟨some 8, .mov (.t 1), none⟩, ⟨some 9, .lenV (.t 8), none⟩, ⟨some 10, .bin .neq (.t 7) (.t 9), none⟩]) (.kl [6, 7, 8, 9] (.cond (.t 10) (.kl [0, 1, 10] (.seq (.reg [⟨some 4, .mov (.c (.bool false)), none⟩]) (.ret))) (.skip)))) (.kl [10] (.seq (.seq (.reg [⟨some 5, .mov (.c (.int .i64 0)), none⟩]) (.blk 0 (.loop lp48_0))) (.seq (.reg [⟨some 4, .mov (.c (.bool true)), none⟩]) (.ret)))))), [.tmp 4]⟩
-- lp50_0 HEAD [0, 1, 5] | exit 0: [1]
/-- laws.markStringS -/
def lb50_0 : C := .kl [10, 11] (.seq (.seq (.reg [⟨some 6, .mov (.t 5), none⟩, ⟨some 7, .mov (.t 0), none⟩, ⟨some 8, .lenV (.t 7), none⟩, ⟨some 9, .bin .lss (.t 6) (.t 8), none⟩]) (.kl [6, 7, 8] (.cond (.t 9) (.skip) (.kl [0, 5, 9] (.exit 0))))) (.kl [9] (.seq (.blk 1 (.seq (.reg [⟨some 12, .mov (.t 0), none⟩, ⟨some 13, .mov (.t 5), none⟩, ⟨some 14, .mov (.t 1), none⟩, ⟨some 15, .call 98 [.t 14], none⟩, ⟨some 16, .iaddr 1 (.t 12) (.t 13), none⟩, ⟨none, .store 1 (.t 16) (.t 15), none⟩]) (.kl [12, 13, 14, 15, 16] (.reg [⟨some 17, .mov (.t 1), none⟩, ⟨some 18, .bin .add (.t 17) (.c (.int .i64 1)), none⟩, ⟨some 1, .mov (.t 18), none⟩])))) (.kl [17, 18] (.reg [⟨some 10, .mov (.t 5), none⟩, ⟨some 11, .bin .add (.t 10) (.c (.int .i64 1)), none⟩, ⟨some 5, .mov (.t 11), none⟩])))))
def lp50_0 : C := lb50_0
def fi50 : FI := ⟨.seq (.reg [⟨some 4, .mov (.c (.int .i64 0)), none⟩]) (.kl [4] (.seq (.seq (.reg [⟨some 5, .mov (.c (.int .i64 0)), none⟩]) (.blk 0 (.loop lp50_0))) (.seq (.reg [⟨some 19, .mov (.t 1), none⟩, ⟨some 4, .mov (.t 19), none⟩]) (.kl [1, 19] (.ret))))), [.tmp 4]⟩
-- lp47_0 HEAD [0, 1, 5] | exit 0: [1] | ret: [4]
/-- laws.heldStringS -/
def lb47_0 : C := .kl [10, 11] (.seq (.seq (.reg [⟨some 6, .mov (.t 5), none⟩, ⟨some 7, .mov (.t 0), none⟩, ⟨some 8, .lenV (.t 7), none⟩, ⟨some 9, .bin .lss (.t 6) (.t 8), none⟩]) (.kl [6, 7, 8] (.cond (.t 9) (.skip) (.kl [0, 5, 9] (.exit 0))))) (.kl [9] (.seq (.blk 1 (.seq (.seq (.drw [⟨some 12, .mov (.t 0), none⟩, ⟨some 13, .mov (.t 5), none⟩, ⟨some 14, .iaddr 1 (.t 12) (.t 13), none⟩, ⟨some 15, .load false 1 (.t 14), none⟩, ⟨some 16, .mov (.t 1), none⟩, ⟨some 17, .call 98 [.t 16], none⟩, ⟨some 18, .bin .neq (.t 15) (.t 17), none⟩] [(3, 5)]) (.kl [12, 13, 14, 15, 16, 17] (.cond (.t 18) (.kl [0, 1, 5, 18] (.seq (.reg [⟨some 4, .mov (.c (.int .i64 (-1))), none⟩]) (.ret))) (.skip)))) (.kl [18] (.reg [⟨some 19, .mov (.t 1), none⟩, ⟨some 20, .bin .add (.t 19) (.c (.int .i64 1)), none⟩, ⟨some 1, .mov (.t 20), none⟩])))) (.kl [19, 20] (.reg [⟨some 10, .mov (.t 5), none⟩, ⟨some 11, .bin .add (.t 10) (.c (.int .i64 1)), none⟩, ⟨some 5, .mov (.t 11), none⟩])))))
def lp47_0 : C := lb47_0
def fi47 : FI := ⟨.seq (.reg [⟨some 4, .mov (.c (.int .i64 0)), none⟩]) (.kl [4] (.seq (.seq (.reg [⟨some 5, .mov (.c (.int .i64 0)), none⟩]) (.blk 0 (.loop lp47_0))) (.seq (.reg [⟨some 21, .mov (.t 1), none⟩, ⟨some 4, .mov (.t 21), none⟩]) (.kl [1, 21] (.ret))))), [.tmp 4]⟩
/-- spec.LiveMoves -/
def fi225 : FI := ⟨.seq (.reg [⟨some 2, .mov (.c (.nilS)), none⟩, ⟨some 3, .mov (.c (.bool false)), none⟩]) (.kl [2, 3] (.seq (.reg [⟨some 5, .build [.nilS, .nilS] [], none⟩, ⟨some 6, .box (.t 5), none⟩, ⟨some 4, .mov (.t 6), none⟩]) (.kl [5, 6] (.seq (.seq (.reg [⟨some 7, .mov (.t 0), none⟩, ⟨some 8, .call 233 [.t 7], none⟩, ⟨some 9, .un .not (.t 8), none⟩, ⟨some 10, .mov (.t 9), none⟩, ⟨some 11, .mov (.t 4), some (10, false)⟩, ⟨some 12, .mov (.t 0), some (10, false)⟩, ⟨some 13, .call 234 [.t 11, .t 12], some (10, false)⟩, ⟨some 14, .un .not (.t 13), some (10, false)⟩, ⟨some 15, .pick (.t 10) (.c (.bool true)) (.t 14), none⟩]) (.kl [7, 8, 9, 10, 11, 12, 13, 14] (.cond (.t 15) (.kl [0, 4, 15] (.seq (.reg [⟨some 2, .mov (.c (.nilS)), none⟩, ⟨some 3, .mov (.c (.bool false)), none⟩]) (.ret))) (.skip)))) (.kl [15] (.seq (.reg [⟨some 16, .mov (.t 4), none⟩, ⟨some 17, .mov (.t 0), none⟩, ⟨some 18, .call 235 [.t 16, .t 17], none⟩, ⟨some 2, .mov (.t 18), none⟩, ⟨some 3, .mov (.c (.bool true)), none⟩]) (.kl [0, 4, 16, 17, 18] (.ret)))))))), [.tmp 2, .tmp 3]⟩
/-- impl.LiveMoves -/
def fi226 : FI := ⟨.seq (.reg [⟨some 2, .mov (.c (.nilS)), none⟩, ⟨some 3, .mov (.c (.bool false)), none⟩]) (.kl [2, 3] (.seq (.seq (.reg [⟨some 7, .mov (.t 0), none⟩, ⟨some 8, .call 236 [.t 7], none⟩, ⟨some 6, .mov (.t 8), none⟩, ⟨some 9, .prj 0 (.t 6), none⟩, ⟨some 10, .prj 1 (.t 6), none⟩, ⟨some 4, .mov (.t 9), none⟩, ⟨some 5, .mov (.t 10), none⟩]) (.kl [5, 6, 7, 8, 9, 10] (.seq (.reg [⟨some 11, .mov (.t 4), none⟩, ⟨some 12, .un .not (.t 11), none⟩]) (.kl [4, 11] (.cond (.t 12) (.kl [0, 12] (.seq (.reg [⟨some 2, .mov (.c (.nilS)), none⟩, ⟨some 3, .mov (.c (.bool false)), none⟩]) (.ret))) (.skip)))))) (.kl [12] (.seq (.reg [⟨some 13, .mov (.t 0), none⟩, ⟨some 14, .call 237 [.t 13], none⟩, ⟨some 15, .call 238 [.t 14], none⟩, ⟨some 16, .mov (.t 0), none⟩, ⟨some 17, .call 239 [.t 15, .t 16], none⟩, ⟨some 2, .mov (.t 17), none⟩, ⟨some 3, .mov (.c (.bool true)), none⟩]) (.kl [0, 13, 14, 15, 16, 17] (.ret)))))), [.tmp 2, .tmp 3]⟩
-- lp227_0 HEAD [0, 1, 5] | exit 0: [] | ret: [4]
/-- laws.eqMoveS -/
def lb227_0 : C := .kl [15, 16] (.seq (.seq (.reg [⟨some 11, .mov (.t 5), none⟩, ⟨some 12, .mov (.t 0), none⟩, ⟨some 13, .lenV (.t 12), none⟩, ⟨some 14, .bin .lss (.t 11) (.t 13), none⟩]) (.kl [11, 12, 13] (.cond (.t 14) (.skip) (.kl [0, 1, 5, 14] (.exit 0))))) (.kl [14] (.seq (.blk 1 (.seq (.drw [⟨some 17, .mov (.t 0), none⟩, ⟨some 18, .mov (.t 5), none⟩, ⟨some 19, .iaddr 2 (.t 17) (.t 18), none⟩, ⟨some 20, .load true 2 (.t 19), none⟩, ⟨some 21, .mov (.t 1), none⟩, ⟨some 22, .mov (.t 5), none⟩, ⟨some 23, .iaddr 2 (.t 21) (.t 22), none⟩, ⟨some 24, .load true 2 (.t 23), none⟩, ⟨some 25, .call 240 [.t 20, .t 24], none⟩, ⟨some 26, .un .not (.t 25), none⟩] []) (.kl [17, 18, 19, 20, 21, 22, 23, 24, 25] (.cond (.t 26) (.kl [0, 1, 5, 26] (.seq (.reg [⟨some 4, .mov (.c (.bool false)), none⟩]) (.ret))) (.skip))))) (.kl [26] (.reg [⟨some 15, .mov (.t 5), none⟩, ⟨some 16, .bin .add (.t 15) (.c (.int .i64 1)), none⟩, ⟨some 5, .mov (.t 16), none⟩])))))
def lp227_0 : C := lb227_0
def fi227 : FI := ⟨.seq (.reg [⟨some 4, .mov (.c (.bool false)), none⟩]) (.kl [4] (.seq (.seq (.reg [⟨some 6, .mov (.t 0), none⟩, ⟨some 7, .lenV (.t 6), none⟩, ⟨some 8, .mov (.t 1), none⟩, ⟨some 9, .lenV (.t 8), none⟩, ⟨some 10, .bin .neq (.t 7) (.t 9), none⟩]) (.kl [6, 7, 8, 9] (.cond (.t 10) (.kl [0, 1, 10] (.seq (.reg [⟨some 4, .mov (.c (.bool false)), none⟩]) (.ret))) (.skip)))) (.kl [10] (.seq (.seq (.reg [⟨some 5, .mov (.c (.int .i64 0)), none⟩]) (.blk 0 (.loop lp227_0))) (.seq (.reg [⟨some 4, .mov (.c (.bool true)), none⟩]) (.ret)))))), [.tmp 4]⟩
-- lp228_0 HEAD [0, 1, 5] | exit 0: [1]
/-- laws.markMoveS -/
def lb228_0 : C := .kl [10, 11] (.seq (.seq (.reg [⟨some 6, .mov (.t 5), none⟩, ⟨some 7, .mov (.t 0), none⟩, ⟨some 8, .lenV (.t 7), none⟩, ⟨some 9, .bin .lss (.t 6) (.t 8), none⟩]) (.kl [6, 7, 8] (.cond (.t 9) (.skip) (.kl [0, 5, 9] (.exit 0))))) (.kl [9] (.seq (.blk 1 (.seq (.reg [⟨some 12, .mov (.t 0), none⟩, ⟨some 13, .mov (.t 5), none⟩, ⟨some 14, .mov (.t 1), none⟩, ⟨some 15, .iaddr 2 (.t 12) (.t 13), none⟩, ⟨some 16, .faddr 0 1 (.t 15), none⟩, ⟨none, .store 1 (.t 16) (.t 14), none⟩]) (.kl [12, 13, 14, 15, 16] (.seq (.reg [⟨some 17, .mov (.t 1), none⟩, ⟨some 18, .bin .add (.t 17) (.c (.int .i64 1)), none⟩, ⟨some 1, .mov (.t 18), none⟩]) (.kl [17, 18] (.seq (.reg [⟨some 19, .mov (.t 0), none⟩, ⟨some 20, .mov (.t 5), none⟩, ⟨some 21, .mov (.t 1), none⟩, ⟨some 22, .iaddr 2 (.t 19) (.t 20), none⟩, ⟨some 23, .faddr 1 1 (.t 22), none⟩, ⟨none, .store 1 (.t 23) (.t 21), none⟩]) (.kl [19, 20, 21, 22, 23] (.reg [⟨some 24, .mov (.t 1), none⟩, ⟨some 25, .bin .add (.t 24) (.c (.int .i64 1)), none⟩, ⟨some 1, .mov (.t 25), none⟩])))))))) (.kl [24, 25] (.reg [⟨some 10, .mov (.t 5), none⟩, ⟨some 11, .bin .add (.t 10) (.c (.int .i64 1)), none⟩, ⟨some 5, .mov (.t 11), none⟩])))))
def lp228_0 : C := lb228_0
def fi228 : FI := ⟨.seq (.reg [⟨some 4, .mov (.c (.int .i64 0)), none⟩]) (.kl [4] (.seq (.seq (.reg [⟨some 5, .mov (.c (.int .i64 0)), none⟩]) (.blk 0 (.loop lp228_0))) (.seq (.reg [⟨some 26, .mov (.t 1), none⟩, ⟨some 4, .mov (.t 26), none⟩]) (.kl [1, 26] (.ret))))), [.tmp 4]⟩
-- lp229_0 HEAD [0, 1, 5] | exit 0: [1] | ret: [4]
/-- laws.heldMoveS -/
def lb229_0 : C := .kl [10, 11] (.seq (.seq (.reg [⟨some 6, .mov (.t 5), none⟩, ⟨some 7, .mov (.t 0), none⟩, ⟨some 8, .lenV (.t 7), none⟩, ⟨some 9, .bin .lss (.t 6) (.t 8), none⟩]) (.kl [6, 7, 8] (.cond (.t 9) (.skip) (.kl [0, 5, 9] (.exit 0))))) (.kl [9] (.seq (.blk 1 (.seq (.seq (.reg [⟨some 12, .mov (.t 0), none⟩, ⟨some 13, .mov (.t 5), none⟩, ⟨some 14, .iaddr 2 (.t 12) (.t 13), none⟩, ⟨some 15, .faddr 0 1 (.t 14), none⟩, ⟨some 16, .load false 1 (.t 15), none⟩, ⟨some 17, .mov (.t 1), none⟩, ⟨some 18, .bin .neq (.t 16) (.t 17), none⟩]) (.kl [12, 13, 14, 15, 16, 17] (.cond (.t 18) (.kl [0, 1, 5, 18] (.seq (.reg [⟨some 4, .mov (.c (.int .i64 (-1))), none⟩]) (.ret))) (.skip)))) (.kl [18] (.seq (.reg [⟨some 19, .mov (.t 1), none⟩, ⟨some 20, .bin .add (.t 19) (.c (.int .i64 1)), none⟩, ⟨some 1, .mov (.t 20), none⟩]) (.kl [19, 20] (.seq (.seq (.reg [⟨some 21, .mov (.t 0), none⟩, ⟨some 22, .mov (.t 5), none⟩, ⟨some 23, .iaddr 2 (.t 21) (.t 22), none⟩, ⟨some 24, .faddr 1 1 (.t 23), none⟩, ⟨some 25, .load false 1 (.t 24), none⟩, ⟨some 26, .mov (.t 1), none⟩, ⟨some 27, .bin .neq (.t 25) (.t 26), none⟩]) (.kl [21, 22, 23, 24, 25, 26] (.cond (.t 27) (.kl [0, 1, 5, 27] (.seq (.reg [⟨some 4, .mov (.c (.int .i64 (-1))), none⟩]) (.ret))) (.skip)))) (.kl [27] (.reg [⟨some 28, .mov (.t 1), none⟩, ⟨some 29, .bin .add (.t 28) (.c (.int .i64 1)), none⟩, ⟨some 1, .mov (.t 29), none⟩])))))))) (.kl [28, 29] (.reg [⟨some 10, .mov (.t 5), none⟩, ⟨some 11, .bin .add (.t 10) (.c (.int .i64 1)), none⟩, ⟨some 5, .mov (.t 11), none⟩])))))
def lp229_0 : C := lb229_0
def fi229 : FI := ⟨.seq (.reg [⟨some 4, .mov (.c (.int .i64 0)), none⟩]) (.kl [4] (.seq (.seq (.reg [⟨some 5, .mov (.c (.int .i64 0)), none⟩]) (.blk 0 (.loop lp229_0))) (.seq (.reg [⟨some 30, .mov (.t 1), none⟩, ⟨some 4, .mov (.t 30), none⟩]) (.kl [1, 30] (.ret))))), [.tmp 4]⟩
/-- spec.woOne -/
def fi94 : FI := ⟨.seq (.reg [⟨some 2, .mov (.c (.bool false)), none⟩]) (.kl [2] (.seq (.reg [⟨some 3, .mov (.t 0), none⟩, ⟨some 4, .call 58 [.t 3], none⟩, ⟨some 5, .mov (.t 4), none⟩, ⟨some 6, .mov (.t 0), some (5, true)⟩, ⟨some 7, .call 116 [.t 6, .c (.int .u8 46)], some (5, true)⟩, ⟨some 8, .bin .eql (.t 7) (.c (.int .i64 1)), some (5, true)⟩, ⟨some 9, .pick (.t 5) (.t 8) (.c (.bool false)), none⟩, ⟨some 2, .mov (.t 9), none⟩]) (.kl [0, 3, 4, 5, 6, 7, 8, 9] (.ret)))), [.tmp 2]⟩
/-- spec.l1In -/
def fi77 : FI := ⟨.seq (.reg [⟨some 6, .mov (.c (.bool false)), none⟩]) (.kl [6] (.seq (.reg [⟨some 7, .mov (.t 0), none⟩, ⟨some 8, .mov (.t 1), none⟩, ⟨some 9, .bin .geq (.t 7) (.t 8), none⟩, ⟨some 10, .mov (.t 9), none⟩, ⟨some 11, .mov (.t 0), some (10, true)⟩, ⟨some 12, .mov (.t 2), some (10, true)⟩, ⟨some 13, .bin .leq (.t 11) (.t 12), some (10, true)⟩, ⟨some 14, .pick (.t 10) (.t 13) (.c (.bool false)), none⟩, ⟨some 6, .mov (.t 14), none⟩]) (.kl [0, 1, 2, 7, 8, 9, 10, 11, 12, 13, 14] (.ret)))), [.tmp 6]⟩
-- lp95_0 HEAD [1, 5, 6, 7] | exit 0: [6]
-- lp95_1 HEAD [8, 34, 35, 36] | exit 2: [8]
/-- spec.woCount -/
def lb95_1 : C := .kl [43] (.seq (.reg [⟨some 37, .bin .lss (.t 36) (.t 35), none⟩]) (.seq (.cond (.t 37) (.skip) (.kl [34, 35, 36, 37] (.exit 2))) (.kl [37] (.seq (.blk 3 (.seq (.reg [⟨some 38, .iaddr 1 (.t 34) (.t 36), none⟩, ⟨some 39, .load false 1 (.t 38), none⟩, ⟨some 10, .mov (.t 39), none⟩]) (.kl [38, 39] (.reg [⟨some 40, .mov (.t 8), none⟩, ⟨some 41, .mov (.t 10), none⟩, ⟨some 42, .bin .add (.t 40) (.t 41), none⟩, ⟨some 8, .mov (.t 42), none⟩])))) (.kl [10, 40, 41, 42] (.reg [⟨some 43, .bin .add (.t 36) (.c (.int .i64 1)), none⟩, ⟨some 36, .mov (.t 43), none⟩]))))))
def lp95_1 : C := lb95_1
def lb95_0 : C := .kl [21, 22] (.seq (.seq (.reg [⟨some 18, .mov (.t 7), none⟩, ⟨some 19, .mov (.t 1), none⟩, ⟨some 20, .bin .leq (.t 18) (.t 19), none⟩]) (.kl [18, 19] (.cond (.t 20) (.skip) (.kl [1, 5, 7, 20] (.exit 0))))) (.kl [20] (.seq (.blk 1 (.drw [⟨some 23, .mov (.t 5), none⟩, ⟨some 24, .mov (.t 7), none⟩, ⟨some 25, .bin .sub (.t 24) (.c (.int .i64 1)), none⟩, ⟨some 26, .iaddr 1 (.t 23) (.t 25), none⟩, ⟨some 27, .load false 1 (.t 26), none⟩, ⟨some 28, .mov (.t 6), none⟩, ⟨some 29, .mov (.t 5), none⟩, ⟨some 30, .mov (.t 7), none⟩, ⟨some 31, .iaddr 1 (.t 29) (.t 30), none⟩, ⟨some 32, .load false 1 (.t 31), none⟩, ⟨some 33, .call 117 [.t 27, .t 28, .t 32], none⟩, ⟨some 6, .mov (.t 33), none⟩] [])) (.kl [23, 24, 25, 26, 27, 28, 29, 30, 31, 32, 33] (.reg [⟨some 21, .mov (.t 7), none⟩, ⟨some 22, .bin .add (.t 21) (.c (.int .i64 1)), none⟩, ⟨some 7, .mov (.t 22), none⟩])))))
def lp95_0 : C := lb95_0
def fi95 : FI := ⟨.seq (.reg [⟨some 4, .mov (.c (.int .i64 0)), none⟩]) (.kl [4] (.seq (.reg [⟨some 11, .mov (.t 0), none⟩, ⟨some 12, .call 118 [.t 11], none⟩, ⟨some 5, .mov (.t 12), none⟩]) (.kl [0, 11, 12] (.seq (.seq (.reg [⟨some 13, .mov (.t 1), none⟩, ⟨some 14, .mov (.t 5), none⟩, ⟨some 15, .lenV (.t 14), none⟩, ⟨some 16, .bin .geq (.t 13) (.t 15), none⟩]) (.kl [13, 14, 15] (.cond (.t 16) (.kl [1, 5, 16] (.seq (.reg [⟨some 4, .mov (.c (.int .i64 0)), none⟩]) (.ret))) (.skip)))) (.kl [16] (.seq (.reg [⟨some 17, .lit 1 1 [.int .i64 0] [(0, 1, .c (.int .i64 1))], none⟩, ⟨some 6, .mov (.t 17), none⟩]) (.kl [17] (.seq (.seq (.reg [⟨some 7, .mov (.c (.int .i64 1)), none⟩]) (.blk 0 (.loop lp95_0))) (.seq (.reg [⟨some 8, .mov (.c (.int .i64 0)), none⟩]) (.seq (.seq (.reg [⟨some 34, .mov (.t 6), none⟩, ⟨some 35, .lenV (.t 34), none⟩, ⟨some 36, .mov (.c (.int .i64 0)), none⟩]) (.kl [6] (.blk 2 (.loop lp95_1)))) (.seq (.reg [⟨some 44, .mov (.t 8), none⟩, ⟨some 4, .mov (.t 44), none⟩]) (.kl [8, 44] (.ret))))))))))))), [.tmp 4]⟩
-- lp93_0 HEAD [0, 1, 5, 14, 15, 16] | exit 0: [5] | exit 1: [0, 1, 5, 14, 15, 16] | exit 2: [0, 1, 5, 14, 15, 16]
-- lp93_1 HEAD [0, 1, 5, 7, 14, 15, 16, 36, 37, 38] | exit 2: [0, 1, 5, 14, 15, 16]
/-- spec.woAll -/
def lb93_1 : C := .kl [48] (.seq (.reg [⟨some 39, .bin .lss (.t 38) (.t 37), none⟩]) (.seq (.cond (.t 39) (.skip) (.kl [7, 36, 37, 38, 39] (.exit 2))) (.kl [39] (.seq (.blk 3 (.seq (.reg [⟨some 40, .iaddr 1 (.t 36) (.t 38), none⟩, ⟨some 41, .load false 1 (.t 40), none⟩, ⟨some 10, .mov (.t 41), none⟩]) (.kl [40, 41] (.reg [⟨some 42, .mov (.t 5), none⟩, ⟨some 43, .mov (.t 7), none⟩, ⟨some 44, .mov (.t 10), none⟩, ⟨some 45, .bin .add (.t 43) (.t 44), none⟩, ⟨some 46, .lit 1 1 [.str []] [(0, 1, .t 45)], none⟩, ⟨some 47, .app 1 (.t 42) (.t 46), none⟩, ⟨some 5, .mov (.t 47), none⟩])))) (.kl [10, 42, 43, 44, 45, 46, 47] (.reg [⟨some 48, .bin .add (.t 38) (.c (.int .i64 1)), none⟩, ⟨some 38, .mov (.t 48), none⟩]))))))
def lp93_1 : C := lb93_1
def lb93_0 : C := .kl [49] (.seq (.reg [⟨some 17, .bin .lss (.t 16) (.t 15), none⟩]) (.seq (.cond (.t 17) (.skip) (.kl [0, 1, 14, 15, 16, 17] (.exit 0))) (.kl [17] (.seq (.blk 1 (.seq (.reg [⟨some 18, .iaddr 1 (.t 14) (.t 16), none⟩, ⟨some 19, .load false 1 (.t 18), none⟩, ⟨some 7, .mov (.t 19), none⟩]) (.kl [18, 19] (.seq (.reg [⟨some 20, .mov (.t 0), none⟩, ⟨some 21, .mov (.t 7), none⟩, ⟨some 22, .bin .eql (.t 21) (.c (.str [84])), none⟩, ⟨some 23, .mov (.t 7), none⟩, ⟨some 24, .bin .eql (.t 23) (.c (.str [70])), none⟩, ⟨some 25, .call 119 [.t 20, .t 22, .t 24], none⟩, ⟨some 8, .mov (.t 25), none⟩]) (.kl [20, 21, 22, 23, 24, 25] (.seq (.seq (.reg [⟨some 26, .mov (.t 8), none⟩, ⟨some 27, .lenV (.t 26), none⟩, ⟨some 28, .bin .eql (.t 27) (.c (.int .i64 0)), none⟩]) (.kl [26, 27] (.cond (.t 28) (.kl [7, 8, 28] (.exit 1)) (.skip)))) (.kl [28] (.seq (.reg [⟨some 29, .mov (.t 0), none⟩, ⟨some 30, .mov (.t 8), none⟩, ⟨some 31, .iaddr 2 (.t 30) (.c (.int .i64 0)), none⟩, ⟨some 32, .load true 2 (.t 31), none⟩, ⟨some 33, .call 66 [.t 29, .t 32], none⟩, ⟨some 34, .mov (.t 1), none⟩, ⟨some 35, .bin .sub (.t 34) (.c (.int .i64 1)), none⟩, ⟨some 36, .call 93 [.t 33, .t 35], none⟩, ⟨some 37, .lenV (.t 36), none⟩, ⟨some 38, .mov (.c (.int .i64 0)), none⟩]) (.kl [8, 29, 30, 31, 32, 33, 34, 35] (.blk 2 (.loop lp93_1))))))))))) (.reg [⟨some 49, .bin .add (.t 16) (.c (.int .i64 1)), none⟩, ⟨some 16, .mov (.t 49), none⟩])))))
def lp93_0 : C := lb93_0
def fi93 : FI := ⟨.seq (.reg [⟨some 4, .mov (.c (.nilS)), none⟩]) (.kl [4] (.seq (.seq (.reg [⟨some 11, .mov (.t 1), none⟩, ⟨some 12, .bin .eql (.t 11) (.c (.int .i64 0)), none⟩]) (.kl [11] (.cond (.t 12) (.kl [0, 1, 12] (.seq (.reg [⟨some 13, .lit 1 1 [.str []] [(0, 1, .c (.str []))], none⟩, ⟨some 4, .mov (.t 13), none⟩]) (.kl [13] (.ret)))) (.skip)))) (.kl [12] (.seq (.reg [⟨some 5, .mov (.c (.nilS)), none⟩]) (.seq (.seq (.reg [⟨some 14, .lit 1 2 [.str [], .str []] [(0, 1, .c (.str [70])), (1, 1, .c (.str [84]))], none⟩, ⟨some 15, .lenV (.t 14), none⟩, ⟨some 16, .mov (.c (.int .i64 0)), none⟩]) (.blk 0 (.loop lp93_0))) (.seq (.reg [⟨some 50, .mov (.t 5), none⟩, ⟨some 4, .mov (.t 50), none⟩]) (.kl [5, 50] (.ret)))))))), [.tmp 4]⟩
/-- impl.CountWordsOf -/
def fi97 : FI := ⟨.seq (.reg [⟨some 4, .mov (.c (.int .i64 0)), none⟩, ⟨some 5, .mov (.c (.bool false)), none⟩]) (.kl [4, 5] (.seq (.seq (.reg [⟨some 6, .mov (.t 0), none⟩, ⟨some 7, .call 121 [.t 6], none⟩, ⟨some 8, .un .not (.t 7), none⟩, ⟨some 9, .mov (.t 8), none⟩, ⟨some 10, .mov (.t 1), some (9, false)⟩, ⟨some 11, .call 74 [.t 10, .c (.int .i64 0), .c (.int .i64 40)], some (9, false)⟩, ⟨some 12, .un .not (.t 11), some (9, false)⟩, ⟨some 13, .pick (.t 9) (.c (.bool true)) (.t 12), none⟩]) (.kl [6, 7, 8, 9, 10, 11, 12] (.cond (.t 13) (.kl [0, 1, 13] (.seq (.reg [⟨some 4, .mov (.c (.int .i64 0)), none⟩, ⟨some 5, .mov (.c (.bool false)), none⟩]) (.ret))) (.skip)))) (.kl [13] (.seq (.reg [⟨some 14, .mkmap, none⟩, ⟨some 15, .mov (.t 0), none⟩, ⟨some 16, .mov (.t 1), none⟩, ⟨some 17, .call 120 [.t 14, .t 15, .t 16], none⟩, ⟨some 4, .mov (.t 17), none⟩, ⟨some 5, .mov (.c (.bool true)), none⟩]) (.kl [0, 1, 14, 15, 16, 17] (.ret)))))), [.tmp 4, .tmp 5]⟩
-- lp96_0 HEAD [0, 1, 2, 4, 5, 21, 22, 23] | exit 0: [] | exit 2: [0, 1, 2, 4, 5, 21, 22, 23]
-- lp96_1 HEAD [0, 1, 2, 4, 5, 9, 21, 22, 23, 29, 30, 31] | exit 2: [0, 1, 2, 4, 5, 21, 22, 23]
/-- impl.AllWordsOf$1 -/
def lb96_1 : C := .kl [53] (.seq (.reg [⟨some 32, .bin .lss (.t 31) (.t 30), none⟩]) (.seq (.cond (.t 32) (.skip) (.kl [9, 29, 30, 31, 32] (.exit 2))) (.kl [32] (.seq (.blk 3 (.seq (.reg [⟨some 33, .iaddr 2 (.t 29) (.t 31), none⟩, ⟨some 34, .load true 2 (.t 33), none⟩, ⟨some 11, .new [.int .i64 0, .int .i64 0], none⟩, ⟨none, .store 2 (.t 11) (.t 34), none⟩]) (.kl [33, 34] (.seq (.reg [⟨some 35, .mov (.t 0), none⟩, ⟨some 36, .load true 2 (.t 11), none⟩, ⟨some 37, .call 61 [.t 35, .t 36], none⟩, ⟨some 12, .mov (.t 37), none⟩]) (.kl [11, 35, 36, 37] (.seq (.reg [⟨some 38, .load false 1 (.t 4), none⟩, ⟨some 39, .mov (.t 12), none⟩, ⟨some 40, .load false 1 (.t 2), none⟩, ⟨some 41, .mov (.t 1), none⟩, ⟨some 42, .lenS (.t 41), none⟩, ⟨some 43, .bin .sub (.t 40) (.t 42), none⟩, ⟨some 44, .bin .sub (.t 43) (.c (.int .i64 1)), none⟩, ⟨some 45, .call 120 [.t 38, .t 39, .t 44], none⟩, ⟨some 46, .bin .gtr (.t 45) (.c (.int .i64 0)), none⟩]) (.kl [38, 39, 40, 41, 42, 43, 44, 45] (.cond (.t 46) (.kl [46] (.reg [⟨some 47, .load false 1 (.t 5), none⟩, ⟨some 48, .mov (.t 12), none⟩, ⟨some 49, .mov (.t 1), none⟩, ⟨some 50, .mov (.t 9), none⟩, ⟨some 51, .bin .add (.t 49) (.t 50), none⟩, ⟨some 52, .callv (.t 47) [.t 48, .t 51], none⟩])) (.skip))))))))) (.kl [12, 46, 47, 48, 49, 50, 51, 52] (.reg [⟨some 53, .bin .add (.t 31) (.c (.int .i64 1)), none⟩, ⟨some 31, .mov (.t 53), none⟩]))))))
def lp96_1 : C := lb96_1
def lb96_0 : C := .kl [54] (.seq (.reg [⟨some 24, .bin .lss (.t 23) (.t 22), none⟩]) (.seq (.cond (.t 24) (.skip) (.kl [0, 1, 2, 4, 5, 21, 22, 23, 24] (.exit 0))) (.kl [24] (.seq (.blk 1 (.seq (.reg [⟨some 25, .iaddr 1 (.t 21) (.t 23), none⟩, ⟨some 26, .load false 1 (.t 25), none⟩, ⟨some 9, .mov (.t 26), none⟩]) (.kl [25, 26] (.seq (.reg [⟨some 27, .mov (.t 0), none⟩, ⟨some 28, .mov (.t 9), none⟩, ⟨some 29, .call 122 [.t 27, .t 28], none⟩, ⟨some 30, .lenV (.t 29), none⟩, ⟨some 31, .mov (.c (.int .i64 0)), none⟩]) (.kl [27, 28] (.blk 2 (.loop lp96_1))))))) (.reg [⟨some 54, .bin .add (.t 23) (.c (.int .i64 1)), none⟩, ⟨some 23, .mov (.t 54), none⟩])))))
def lp96_0 : C := lb96_0
def fi96 : FI := ⟨.seq (.seq (.reg [⟨some 13, .mov (.t 1), none⟩, ⟨some 14, .lenS (.t 13), none⟩, ⟨some 15, .load false 1 (.t 2), none⟩, ⟨some 16, .bin .eql (.t 14) (.t 15), none⟩]) (.kl [13, 14, 15] (.cond (.t 16) (.kl [0, 2, 4, 5, 16] (.seq (.reg [⟨some 17, .load false 1 (.t 3), none⟩, ⟨some 18, .mov (.t 1), none⟩, ⟨some 19, .lit 1 1 [.str []] [(0, 1, .t 18)], none⟩, ⟨some 20, .app 1 (.t 17) (.t 19), none⟩, ⟨none, .store 1 (.t 3) (.t 20), none⟩]) (.kl [1, 3, 17, 18, 19, 20] (.ret)))) (.skip)))) (.kl [3, 16] (.seq (.reg [⟨some 21, .lit 1 2 [.str [], .str []] [(0, 1, .c (.str [70])), (1, 1, .c (.str [84]))], none⟩, ⟨some 22, .lenV (.t 21), none⟩, ⟨some 23, .mov (.c (.int .i64 0)), none⟩]) (.blk 0 (.loop lp96_0)))), []⟩
/-- impl.kindMoves -/
def fi122 : FI := ⟨.seq (.reg [⟨some 4, .mov (.c (.nilS)), none⟩]) (.kl [4] (.seq (.reg [⟨some 5, .mov (.t 0), none⟩, ⟨some 6, .mov (.t 1), none⟩, ⟨some 7, .call 105 [.t 5, .t 6], none⟩, ⟨some 4, .mov (.t 7), none⟩]) (.kl [0, 1, 5, 6, 7] (.ret)))), [.tmp 4]⟩
/-- impl.made -/
def fi61 : FI := ⟨.seq (.reg [⟨some 3, .box (.t 1), none⟩, ⟨some 4, .mov (.c (.str [])), none⟩]) (.kl [1, 4] (.seq (.reg [⟨some 6, .mov (.t 0), none⟩, ⟨some 7, .toB (.t 6), none⟩, ⟨some 5, .mov (.t 7), none⟩]) (.kl [0, 6, 7] (.seq (.drw [⟨some 8, .mov (.t 5), none⟩, ⟨some 9, .faddr 1 1 (.t 3), none⟩, ⟨some 10, .load false 1 (.t 9), none⟩, ⟨some 11, .mov (.t 5), none⟩, ⟨some 12, .faddr 0 1 (.t 3), none⟩, ⟨some 13, .load false 1 (.t 12), none⟩, ⟨some 14, .mov (.t 5), none⟩, ⟨some 15, .faddr 0 1 (.t 3), none⟩, ⟨some 16, .load false 1 (.t 15), none⟩, ⟨some 17, .iaddr 1 (.t 14) (.t 16), none⟩, ⟨some 18, .load false 1 (.t 17), none⟩, ⟨some 19, .iaddr 1 (.t 8) (.t 10), none⟩, ⟨none, .store 1 (.t 19) (.t 18), none⟩, ⟨some 20, .iaddr 1 (.t 11) (.t 13), none⟩, ⟨none, .store 1 (.t 20) (.c (.int .u8 46)), none⟩] [(5, 12)]) (.kl [3, 8, 9, 10, 11, 12, 13, 14, 15, 16, 17, 18, 19, 20] (.seq (.reg [⟨some 21, .mov (.t 5), none⟩, ⟨some 22, .ofB (.t 21), none⟩, ⟨some 4, .mov (.t 22), none⟩]) (.kl [5, 21, 22] (.ret)))))))), [.tmp 4]⟩
-- lp120_0 HEAD [0, 1, 2, 7, 10, 28, 29, 30] | exit 0: [0, 7, 10]
/-- (impl.wordCount).of -/
def lb120_0 : C := .kl [43] (.seq (.reg [⟨some 31, .bin .lss (.t 30) (.t 29), none⟩]) (.seq (.cond (.t 31) (.skip) (.kl [1, 2, 28, 29, 30, 31] (.exit 0))) (.kl [31] (.seq (.blk 1 (.seq (.reg [⟨some 32, .iaddr 2 (.t 28) (.t 30), none⟩, ⟨some 33, .load true 2 (.t 32), none⟩, ⟨some 12, .new [.int .i64 0, .int .i64 0], none⟩, ⟨none, .store 2 (.t 12) (.t 33), none⟩]) (.kl [32, 33] (.reg [⟨some 34, .mov (.t 10), none⟩, ⟨some 35, .mov (.t 0), none⟩, ⟨some 36, .mov (.t 1), none⟩, ⟨some 37, .load true 2 (.t 12), none⟩, ⟨some 38, .call 61 [.t 36, .t 37], none⟩, ⟨some 39, .mov (.t 2), none⟩, ⟨some 40, .bin .sub (.t 39) (.c (.int .i64 1)), none⟩, ⟨some 41, .call 120 [.t 35, .t 38, .t 40], none⟩, ⟨some 42, .bin .add (.t 34) (.t 41), none⟩, ⟨some 10, .mov (.t 42), none⟩])))) (.kl [12, 34, 35, 36, 37, 38, 39, 40, 41, 42] (.reg [⟨some 43, .bin .add (.t 30) (.c (.int .i64 1)), none⟩, ⟨some 30, .mov (.t 43), none⟩]))))))
def lp120_0 : C := lb120_0
def fi120 : FI := ⟨.seq (.reg [⟨some 6, .mov (.c (.int .i64 0)), none⟩]) (.kl [6] (.seq (.seq (.reg [⟨some 13, .mov (.t 2), none⟩, ⟨some 14, .bin .eql (.t 13) (.c (.int .i64 0)), none⟩]) (.kl [13] (.cond (.t 14) (.kl [0, 1, 2, 14] (.seq (.reg [⟨some 6, .mov (.c (.int .i64 1)), none⟩]) (.ret))) (.skip)))) (.kl [14] (.seq (.reg [⟨some 15, .mov (.t 1), none⟩, ⟨some 16, .mov (.t 2), none⟩, ⟨some 17, .call 123 [.c (.str [33]), .t 16], none⟩, ⟨some 18, .bin .add (.t 15) (.t 17), none⟩, ⟨some 7, .mov (.t 18), none⟩]) (.kl [15, 16, 17, 18] (.seq (.seq (.reg [⟨some 20, .mov (.t 0), none⟩, ⟨some 21, .mov (.t 7), none⟩, ⟨some 22, .look 1 (.int .i64 0) true (.t 20) (.t 21), none⟩, ⟨some 19, .mov (.t 22), none⟩, ⟨some 23, .prj 0 (.t 19), none⟩, ⟨some 24, .prj 1 (.t 19), none⟩, ⟨some 8, .mov (.t 23), none⟩, ⟨some 9, .mov (.t 24), none⟩]) (.kl [19, 20, 21, 22, 23, 24] (.seq (.reg [⟨some 25, .mov (.t 9), none⟩]) (.kl [9] (.cond (.t 25) (.kl [0, 1, 2, 7, 25] (.seq (.reg [⟨some 26, .mov (.t 8), none⟩, ⟨some 6, .mov (.t 26), none⟩]) (.kl [8, 26] (.ret)))) (.skip)))))) (.kl [8, 25] (.seq (.reg [⟨some 10, .mov (.c (.int .i64 0)), none⟩]) (.seq (.seq (.reg [⟨some 27, .mov (.t 1), none⟩, ⟨some 28, .call 105 [.t 27, .c (.str [84, 70])], none⟩, ⟨some 29, .lenV (.t 28), none⟩, ⟨some 30, .mov (.c (.int .i64 0)), none⟩]) (.kl [27] (.blk 0 (.loop lp120_0)))) (.seq (.reg [⟨some 44, .mov (.t 0), none⟩, ⟨some 45, .mov (.t 7), none⟩, ⟨some 46, .mov (.t 10), none⟩, ⟨none, .mset 1 (.t 44) (.t 45) (.t 46), none⟩]) (.kl [0, 7, 44, 45, 46] (.seq (.reg [⟨some 47, .mov (.t 10), none⟩, ⟨some 6, .mov (.t 47), none⟩]) (.kl [10, 47] (.ret)))))))))))))), [.tmp 6]⟩
-- lp98_0 HEAD [0, 3] | exit 0: [3]
/-- laws.markText -/
def lb98_0 : C := .kl [16, 17] (.seq (.seq (.reg [⟨some 6, .mov (.t 0), none⟩, ⟨some 7, .bin .gtr (.t 6) (.c (.int .i64 0)), none⟩]) (.kl [6] (.cond (.t 7) (.skip) (.kl [0, 7] (.exit 0))))) (.kl [7] (.blk 1 (.seq (.reg [⟨some 8, .mov (.t 0), none⟩, ⟨some 9, .bin .rem (.t 8) (.c (.int .i64 10)), none⟩, ⟨some 10, .bin .add (.c (.int .i64 48)) (.t 9), none⟩, ⟨some 11, .conv .u8 (.t 10), none⟩, ⟨some 12, .lit 1 1 [.int .u8 0] [(0, 1, .t 11)], none⟩, ⟨some 13, .ofB (.t 12), none⟩, ⟨some 14, .mov (.t 3), none⟩, ⟨some 15, .bin .add (.t 13) (.t 14), none⟩, ⟨some 3, .mov (.t 15), none⟩]) (.kl [8, 9, 10, 11, 12, 13, 14, 15] (.reg [⟨some 16, .mov (.t 0), none⟩, ⟨some 17, .bin .quo (.t 16) (.c (.int .i64 10)), none⟩, ⟨some 0, .mov (.t 17), none⟩]))))))
def lp98_0 : C := lb98_0
def fi98 : FI := ⟨.seq (.reg [⟨some 2, .mov (.c (.str [])), none⟩]) (.kl [2] (.seq (.seq (.reg [⟨some 4, .mov (.t 0), none⟩, ⟨some 5, .bin .leq (.t 4) (.c (.int .i64 0)), none⟩]) (.kl [4] (.cond (.t 5) (.kl [0, 5] (.seq (.reg [⟨some 2, .mov (.c (.str [109, 48])), none⟩]) (.ret))) (.skip)))) (.kl [5] (.seq (.reg [⟨some 3, .mov (.c (.str [])), none⟩]) (.seq (.blk 0 (.loop lp98_0)) (.seq (.reg [⟨some 18, .mov (.t 3), none⟩, ⟨some 19, .bin .add (.c (.str [109])) (.t 18), none⟩, ⟨some 2, .mov (.t 19), none⟩]) (.kl [3, 18, 19] (.ret)))))))), [.tmp 2]⟩
/-- spec.swLine -/
def fi233 : FI := ⟨.seq (.reg [⟨some 2, .mov (.c (.bool false)), none⟩]) (.kl [2] (.seq (.reg [⟨some 3, .mov (.t 0), none⟩, ⟨some 4, .call 104 [.t 3], none⟩, ⟨some 5, .mov (.t 4), none⟩, ⟨some 6, .mov (.t 0), some (5, true)⟩, ⟨some 7, .lenS (.t 6), some (5, true)⟩, ⟨some 8, .bin .leq (.t 7) (.c (.int .i64 8)), some (5, true)⟩, ⟨some 9, .pick (.t 5) (.t 8) (.c (.bool false)), none⟩, ⟨some 2, .mov (.t 9), none⟩]) (.kl [0, 3, 4, 5, 6, 7, 8, 9] (.ret)))), [.tmp 2]⟩
-- lp234_0 HEAD [1, 14, 15, 16] | exit 0: [] | ret: [4]
/-- spec.swIsLive -/
def lb234_0 : C := .kl [23] (.seq (.reg [⟨some 17, .bin .lss (.t 16) (.t 15), none⟩]) (.seq (.cond (.t 17) (.skip) (.kl [1, 14, 15, 16, 17] (.exit 0))) (.kl [17] (.seq (.blk 1 (.seq (.reg [⟨some 18, .iaddr 1 (.t 14) (.t 16), none⟩, ⟨some 19, .load false 1 (.t 18), none⟩, ⟨some 6, .mov (.t 19), none⟩]) (.kl [18, 19] (.seq (.reg [⟨some 20, .mov (.t 6), none⟩, ⟨some 21, .mov (.t 1), none⟩, ⟨some 22, .call 243 [.t 20, .t 21], none⟩]) (.kl [6, 20, 21] (.cond (.t 22) (.kl [1, 14, 15, 16, 22] (.seq (.reg [⟨some 4, .mov (.c (.bool true)), none⟩]) (.ret))) (.skip))))))) (.kl [22] (.reg [⟨some 23, .bin .add (.t 16) (.c (.int .i64 1)), none⟩, ⟨some 16, .mov (.t 23), none⟩]))))))
def lp234_0 : C := lb234_0
def fi234 : FI := ⟨.seq (.reg [⟨some 4, .mov (.c (.bool false)), none⟩]) (.kl [4] (.seq (.seq (.reg [⟨some 7, .mov (.t 0), none⟩, ⟨some 8, .mov (.t 1), none⟩, ⟨some 9, .call 116 [.t 8, .c (.int .u8 84)], none⟩, ⟨some 10, .mov (.t 1), none⟩, ⟨some 11, .call 116 [.t 10, .c (.int .u8 46)], none⟩, ⟨some 12, .mov (.t 1), none⟩, ⟨some 13, .call 116 [.t 12, .c (.int .u8 70)], none⟩, ⟨some 14, .call 242 [.t 7, .t 9, .t 11, .t 13], none⟩, ⟨some 15, .lenV (.t 14), none⟩, ⟨some 16, .mov (.c (.int .i64 0)), none⟩]) (.kl [0, 7, 8, 9, 10, 11, 12, 13] (.blk 0 (.loop lp234_0)))) (.seq (.reg [⟨some 4, .mov (.c (.bool false)), none⟩]) (.ret)))), [.tmp 4]⟩
-- lp235_0 HEAD [0, 1, 5, 9, 10, 11] | exit 0: [5]
/-- spec.swLiveMoves -/
def lb235_0 : C := .kl [25] (.seq (.reg [⟨some 12, .bin .lss (.t 11) (.t 10), none⟩]) (.seq (.cond (.t 12) (.skip) (.kl [0, 1, 9, 10, 11, 12] (.exit 0))) (.kl [12] (.seq (.blk 1 (.seq (.reg [⟨some 13, .iaddr 2 (.t 9) (.t 11), none⟩, ⟨some 14, .load true 2 (.t 13), none⟩, ⟨some 7, .new [.int .i64 0, .int .i64 0], none⟩, ⟨none, .store 2 (.t 7) (.t 14), none⟩]) (.kl [13, 14] (.seq (.reg [⟨some 15, .mov (.t 0), none⟩, ⟨some 16, .mov (.t 1), none⟩, ⟨some 17, .load true 2 (.t 7), none⟩, ⟨some 18, .call 66 [.t 16, .t 17], none⟩, ⟨some 19, .call 244 [.t 15, .t 18], none⟩, ⟨some 20, .bin .gtr (.t 19) (.c (.int .i64 0)), none⟩]) (.kl [15, 16, 17, 18, 19] (.cond (.t 20) (.kl [20] (.reg [⟨some 21, .mov (.t 5), none⟩, ⟨some 22, .load true 2 (.t 7), none⟩, ⟨some 23, .lit 2 1 [.int .i64 0, .int .i64 0] [(0, 2, .t 22)], none⟩, ⟨some 24, .app 2 (.t 21) (.t 23), none⟩, ⟨some 5, .mov (.t 24), none⟩])) (.skip))))))) (.kl [7, 20, 21, 22, 23, 24] (.reg [⟨some 25, .bin .add (.t 11) (.c (.int .i64 1)), none⟩, ⟨some 11, .mov (.t 25), none⟩]))))))
def lp235_0 : C := lb235_0
def fi235 : FI := ⟨.seq (.reg [⟨some 4, .mov (.c (.nilS)), none⟩]) (.kl [4] (.seq (.reg [⟨some 5, .mov (.c (.nilS)), none⟩]) (.seq (.seq (.reg [⟨some 8, .mov (.t 1), none⟩, ⟨some 9, .call 119 [.t 8, .c (.bool true), .c (.bool true)], none⟩, ⟨some 10, .lenV (.t 9), none⟩, ⟨some 11, .mov (.c (.int .i64 0)), none⟩]) (.kl [8] (.blk 0 (.loop lp235_0)))) (.seq (.reg [⟨some 26, .mov (.t 5), none⟩, ⟨some 4, .mov (.t 26), none⟩]) (.kl [5, 26] (.ret)))))), [.tmp 4]⟩
/-- impl.IsLive -/
def fi236 : FI := ⟨.seq (.reg [⟨some 2, .mov (.c (.bool false)), none⟩, ⟨some 3, .mov (.c (.bool false)), none⟩]) (.kl [2, 3] (.seq (.seq (.reg [⟨some 4, .mov (.t 0), none⟩, ⟨some 5, .call 82 [.t 4, .c (.int .i64 8)], none⟩, ⟨some 6, .un .not (.t 5), none⟩]) (.kl [4, 5] (.cond (.t 6) (.kl [0, 6] (.seq (.reg [⟨some 2, .mov (.c (.bool false)), none⟩, ⟨some 3, .mov (.c (.bool false)), none⟩]) (.ret))) (.skip)))) (.kl [6] (.seq (.reg [⟨some 7, .mov (.t 0), none⟩, ⟨some 8, .call 245 [.t 7], none⟩, ⟨some 2, .mov (.t 8), none⟩, ⟨some 3, .mov (.c (.bool true)), none⟩]) (.kl [0, 7, 8] (.ret)))))), [.tmp 2, .tmp 3]⟩
/-- impl.to -/
def fi238 : FI := ⟨.seq (.reg [⟨some 2, .new [.str [], .nilM], none⟩]) (.seq (.reg [⟨some 3, .mov (.t 0), none⟩, ⟨some 4, .mkmap, none⟩, ⟨some 5, .mov (.t 0), none⟩, ⟨none, .mset 1 (.t 4) (.t 5) (.c (.int .i64 1)), none⟩, ⟨some 6, .mov (.t 4), none⟩, ⟨some 7, .build [.str [], .nilM] [(0, 1, .t 3), (1, 1, .t 6)], none⟩, ⟨none, .store 2 (.t 2) (.t 7), none⟩]) (.kl [0, 3, 4, 5, 6, 7] (.ret))), [.cell true 2 2]⟩
/-- impl.last -/
def fi237 : FI := ⟨.seq (.reg [⟨some 2, .mov (.c (.str [])), none⟩]) (.kl [2] (.seq (.reg [⟨some 7, .mov (.t 0), none⟩, ⟨some 8, .call 189 [.t 7], none⟩, ⟨some 6, .mov (.t 8), none⟩, ⟨some 9, .prj 0 (.t 6), none⟩, ⟨some 10, .prj 1 (.t 6), none⟩, ⟨some 11, .prj 2 (.t 6), none⟩, ⟨some 3, .mov (.t 9), none⟩, ⟨some 4, .mov (.t 10), none⟩, ⟨some 5, .mov (.t 11), none⟩]) (.kl [0, 6, 7, 8, 9, 10, 11] (.seq (.reg [⟨some 12, .mov (.t 5), none⟩, ⟨some 13, .mov (.t 4), none⟩, ⟨some 14, .mov (.t 3), none⟩, ⟨some 15, .call 246 [.c (.int .u8 70), .t 12, .t 13, .c (.int .u8 84), .t 14], none⟩, ⟨some 2, .mov (.t 15), none⟩]) (.kl [3, 4, 5, 12, 13, 14, 15] (.ret)))))), [.tmp 2]⟩
/-- (impl.swaps).live -/
def fi239 : FI := ⟨.seq (.reg [⟨some 2, .box (.t 0), none⟩, ⟨some 3, .box (.t 1), none⟩, ⟨some 4, .mov (.c (.nilS)), none⟩]) (.kl [0, 1, 4] (.seq (.reg [⟨some 5, .load false 1 (.t 3), none⟩, ⟨some 6, .call 105 [.t 5, .c (.str [84, 70])], none⟩, ⟨some 7, .mkfn 247 [.t 2, .t 3], none⟩, ⟨some 8, .call 248 [.t 6, .t 7], none⟩, ⟨some 4, .mov (.t 8), none⟩]) (.kl [2, 3, 5, 6, 7, 8] (.ret)))), [.tmp 4]⟩
/-- laws.eqMove -/
def fi240 : FI := ⟨.seq (.reg [⟨some 2, .box (.t 0), none⟩, ⟨some 3, .box (.t 1), none⟩, ⟨some 4, .mov (.c (.bool false)), none⟩]) (.kl [0, 1, 4] (.seq (.seq (.reg [⟨some 5, .faddr 0 1 (.t 2), none⟩, ⟨some 6, .load false 1 (.t 5), none⟩, ⟨some 7, .faddr 0 1 (.t 3), none⟩, ⟨some 8, .load false 1 (.t 7), none⟩, ⟨some 9, .bin .neq (.t 6) (.t 8), none⟩]) (.kl [5, 6, 7, 8] (.cond (.t 9) (.kl [2, 3, 9] (.seq (.reg [⟨some 4, .mov (.c (.bool false)), none⟩]) (.ret))) (.skip)))) (.kl [9] (.seq (.seq (.reg [⟨some 10, .faddr 1 1 (.t 2), none⟩, ⟨some 11, .load false 1 (.t 10), none⟩, ⟨some 12, .faddr 1 1 (.t 3), none⟩, ⟨some 13, .load false 1 (.t 12), none⟩, ⟨some 14, .bin .neq (.t 11) (.t 13), none⟩]) (.kl [2, 3, 10, 11, 12, 13] (.cond (.t 14) (.kl [14] (.seq (.reg [⟨some 4, .mov (.c (.bool false)), none⟩]) (.ret))) (.skip)))) (.kl [14] (.seq (.reg [⟨some 4, .mov (.c (.bool true)), none⟩]) (.ret))))))), [.tmp 4]⟩
/-- spec.reFew -/
def fi58 : FI := ⟨.seq (.reg [⟨some 2, .mov (.c (.bool false)), none⟩]) (.kl [2] (.seq (.reg [⟨some 3, .mov (.t 0), none⟩, ⟨some 4, .call 104 [.t 3], none⟩, ⟨some 5, .mov (.t 4), none⟩, ⟨some 6, .mov (.t 0), some (5, true)⟩, ⟨some 7, .lenS (.t 6), some (5, true)⟩, ⟨some 8, .bin .leq (.t 7) (.c (.int .i64 10)), some (5, true)⟩, ⟨some 9, .pick (.t 5) (.t 8) (.c (.bool false)), none⟩, ⟨some 2, .mov (.t 9), none⟩]) (.kl [0, 3, 4, 5, 6, 7, 8, 9] (.ret)))), [.tmp 2]⟩
-- lp116_0 HEAD [0, 1, 5, 6] | exit 0: [5]
/-- spec.liCount -/
def lb116_0 : C := .kl [11, 12] (.seq (.seq (.reg [⟨some 7, .mov (.t 6), none⟩, ⟨some 8, .mov (.t 0), none⟩, ⟨some 9, .lenS (.t 8), none⟩, ⟨some 10, .bin .lss (.t 7) (.t 9), none⟩]) (.kl [7, 8, 9] (.cond (.t 10) (.skip) (.kl [0, 1, 6, 10] (.exit 0))))) (.kl [10] (.seq (.blk 1 (.seq (.reg [⟨some 13, .mov (.t 0), none⟩, ⟨some 14, .mov (.t 6), none⟩, ⟨some 15, .idxS (.t 13) (.t 14), none⟩, ⟨some 16, .mov (.t 1), none⟩, ⟨some 17, .bin .eql (.t 15) (.t 16), none⟩]) (.kl [13, 14, 15, 16] (.cond (.t 17) (.kl [17] (.reg [⟨some 18, .mov (.t 5), none⟩, ⟨some 19, .bin .add (.t 18) (.c (.int .i64 1)), none⟩, ⟨some 5, .mov (.t 19), none⟩])) (.skip))))) (.kl [17, 18, 19] (.reg [⟨some 11, .mov (.t 6), none⟩, ⟨some 12, .bin .add (.t 11) (.c (.int .i64 1)), none⟩, ⟨some 6, .mov (.t 12), none⟩])))))
def lp116_0 : C := lb116_0
def fi116 : FI := ⟨.seq (.reg [⟨some 4, .mov (.c (.int .i64 0)), none⟩]) (.kl [4] (.seq (.reg [⟨some 5, .mov (.c (.int .i64 0)), none⟩]) (.seq (.seq (.reg [⟨some 6, .mov (.c (.int .i64 0)), none⟩]) (.blk 0 (.loop lp116_0))) (.seq (.reg [⟨some 20, .mov (.t 5), none⟩, ⟨some 4, .mov (.t 20), none⟩]) (.kl [5, 20] (.ret)))))), [.tmp 4]⟩
-- lp118_0 HEAD [3] | exit 2: [3, 4] | exit 4: [3, 4, 17, 18, 19] | ret: [2]
-- lp118_1 HEAD [3, 4, 17, 18, 19] | exit 2: [3, 4] | exit 4: [3, 4, 17, 18, 19]
-- lp118_2 HEAD [3, 4, 6, 17, 18, 19, 24, 25, 26] | exit 4: [3, 4, 17, 18, 19]
/-- spec.reLayers -/
def lb118_2 : C := .kl [35] (.seq (.reg [⟨some 27, .bin .lss (.t 26) (.t 25), none⟩]) (.seq (.cond (.t 27) (.skip) (.kl [6, 24, 25, 26, 27] (.exit 4))) (.kl [27] (.seq (.blk 5 (.seq (.reg [⟨some 28, .iaddr 2 (.t 24) (.t 26), none⟩, ⟨some 29, .load true 2 (.t 28), none⟩, ⟨some 8, .new [.int .i64 0, .int .i64 0], none⟩, ⟨none, .store 2 (.t 8) (.t 29), none⟩]) (.kl [28, 29] (.reg [⟨some 30, .mov (.t 4), none⟩, ⟨some 31, .mov (.t 6), none⟩, ⟨some 32, .load true 2 (.t 8), none⟩, ⟨some 33, .call 66 [.t 31, .t 32], none⟩, ⟨some 34, .call 129 [.t 30, .t 33], none⟩, ⟨some 4, .mov (.t 34), none⟩])))) (.kl [8, 30, 31, 32, 33, 34] (.reg [⟨some 35, .bin .add (.t 26) (.c (.int .i64 1)), none⟩, ⟨some 26, .mov (.t 35), none⟩]))))))
def lp118_2 : C := lb118_2
def lb118_1 : C := .kl [36] (.seq (.reg [⟨some 20, .bin .lss (.t 19) (.t 18), none⟩]) (.seq (.cond (.t 20) (.skip) (.kl [17, 18, 19, 20] (.exit 2))) (.kl [20] (.seq (.blk 3 (.seq (.reg [⟨some 21, .iaddr 1 (.t 17) (.t 19), none⟩, ⟨some 22, .load false 1 (.t 21), none⟩, ⟨some 6, .mov (.t 22), none⟩]) (.kl [21, 22] (.seq (.reg [⟨some 23, .mov (.t 6), none⟩, ⟨some 24, .call 119 [.t 23, .c (.bool true), .c (.bool true)], none⟩, ⟨some 25, .lenV (.t 24), none⟩, ⟨some 26, .mov (.c (.int .i64 0)), none⟩]) (.kl [23] (.blk 4 (.loop lp118_2))))))) (.reg [⟨some 36, .bin .add (.t 19) (.c (.int .i64 1)), none⟩, ⟨some 19, .mov (.t 36), none⟩])))))
def lp118_1 : C := lb118_1
def lb118_0 : C := .kl [4, 41, 42, 43, 44] (.blk 1 (.seq (.reg [⟨some 4, .mov (.c (.nilS)), none⟩]) (.seq (.seq (.reg [⟨some 12, .mov (.t 3), none⟩, ⟨some 13, .mov (.t 3), none⟩, ⟨some 14, .lenV (.t 13), none⟩, ⟨some 15, .bin .sub (.t 14) (.c (.int .i64 1)), none⟩, ⟨some 16, .iaddr 1 (.t 12) (.t 15), none⟩, ⟨some 17, .load false 1 (.t 16), none⟩, ⟨some 18, .lenV (.t 17), none⟩, ⟨some 19, .mov (.c (.int .i64 0)), none⟩]) (.kl [12, 13, 14, 15, 16] (.blk 2 (.loop lp118_1)))) (.seq (.seq (.reg [⟨some 37, .mov (.t 4), none⟩, ⟨some 38, .lenV (.t 37), none⟩, ⟨some 39, .bin .eql (.t 38) (.c (.int .i64 0)), none⟩]) (.kl [37, 38] (.cond (.t 39) (.kl [4, 39] (.seq (.reg [⟨some 40, .mov (.t 3), none⟩, ⟨some 2, .mov (.t 40), none⟩]) (.kl [3, 40] (.ret)))) (.skip)))) (.kl [39] (.reg [⟨some 41, .mov (.t 3), none⟩, ⟨some 42, .mov (.t 4), none⟩, ⟨some 43, .lit 1 1 [.nilS] [(0, 1, .t 42)], none⟩, ⟨some 44, .app 1 (.t 41) (.t 43), none⟩, ⟨some 3, .mov (.t 44), none⟩]))))))
def lp118_0 : C := lb118_0
def fi118 : FI := ⟨.seq (.reg [⟨some 2, .mov (.c (.nilS)), none⟩]) (.kl [2] (.seq (.reg [⟨some 9, .mov (.t 0), none⟩, ⟨some 10, .lit 1 1 [.str []] [(0, 1, .t 9)], none⟩, ⟨some 11, .lit 1 1 [.nilS] [(0, 1, .t 10)], none⟩, ⟨some 3, .mov (.t 11), none⟩]) (.kl [0, 9, 10, 11] (.blk 0 (.loop lp118_0))))), [.tmp 2]⟩
-- lp117_0 HEAD [1, 2, 7, 18, 19, 20] | exit 0: [7] | exit 2: [1, 2, 7, 18, 19, 20] | exit 4: [1, 2, 7, 8, 9, 18, 19, 20, 26, 27, 28]
-- lp117_1 HEAD [1, 2, 7, 8, 9, 18, 19, 20, 26, 27, 28] | exit 2: [1, 2, 7, 18, 19, 20] | exit 4: [1, 2, 7, 8, 9, 18, 19, 20, 26, 27, 28]
-- lp117_2 HEAD [1, 2, 7, 8, 9, 12, 18, 19, 20, 26, 27, 28, 35, 36, 37] | exit 4: [1, 2, 7, 8, 9, 18, 19, 20, 26, 27, 28]
/-- spec.reCounts -/
def lb117_2 : C := .kl [55] (.seq (.reg [⟨some 38, .bin .lss (.t 37) (.t 36), none⟩]) (.seq (.cond (.t 38) (.skip) (.kl [12, 35, 36, 37, 38] (.exit 4))) (.kl [38] (.seq (.blk 5 (.seq (.reg [⟨some 39, .mov (.t 37), none⟩, ⟨some 40, .iaddr 1 (.t 35) (.t 37), none⟩, ⟨some 41, .load false 1 (.t 40), none⟩, ⟨some 13, .mov (.t 39), none⟩, ⟨some 14, .mov (.t 41), none⟩]) (.kl [39, 40, 41] (.seq (.reg [⟨some 42, .mov (.t 14), none⟩, ⟨some 43, .mov (.t 12), none⟩, ⟨some 44, .bin .eql (.t 42) (.t 43), none⟩]) (.kl [14, 42, 43] (.cond (.t 44) (.kl [44] (.drw [⟨some 45, .mov (.t 7), none⟩, ⟨some 46, .mov (.t 13), none⟩, ⟨some 47, .iaddr 1 (.t 45) (.t 46), none⟩, ⟨some 48, .load false 1 (.t 47), none⟩, ⟨some 49, .mov (.t 1), none⟩, ⟨some 50, .mov (.t 8), none⟩, ⟨some 51, .iaddr 1 (.t 49) (.t 50), none⟩, ⟨some 52, .load false 1 (.t 51), none⟩, ⟨some 53, .bin .add (.t 48) (.t 52), none⟩, ⟨some 54, .iaddr 1 (.t 45) (.t 46), none⟩, ⟨none, .store 1 (.t 54) (.t 53), none⟩] [])) (.skip))))))) (.kl [13, 44, 45, 46, 47, 48, 49, 50, 51, 52, 53, 54] (.reg [⟨some 55, .bin .add (.t 37) (.c (.int .i64 1)), none⟩, ⟨some 37, .mov (.t 55), none⟩]))))))
def lp117_2 : C := lb117_2
def lb117_1 : C := .kl [56] (.seq (.reg [⟨some 29, .bin .lss (.t 28) (.t 27), none⟩]) (.seq (.cond (.t 29) (.skip) (.kl [8, 9, 26, 27, 28, 29] (.exit 2))) (.kl [29] (.seq (.blk 3 (.seq (.reg [⟨some 30, .iaddr 2 (.t 26) (.t 28), none⟩, ⟨some 31, .load true 2 (.t 30), none⟩, ⟨some 11, .new [.int .i64 0, .int .i64 0], none⟩, ⟨none, .store 2 (.t 11) (.t 31), none⟩]) (.kl [30, 31] (.seq (.reg [⟨some 32, .mov (.t 9), none⟩, ⟨some 33, .load true 2 (.t 11), none⟩, ⟨some 34, .call 66 [.t 32, .t 33], none⟩, ⟨some 12, .mov (.t 34), none⟩]) (.kl [11, 32, 33, 34] (.seq (.reg [⟨some 35, .mov (.t 2), none⟩, ⟨some 36, .lenV (.t 35), none⟩, ⟨some 37, .mov (.c (.int .i64 0)), none⟩]) (.blk 4 (.loop lp117_2)))))))) (.reg [⟨some 56, .bin .add (.t 28) (.c (.int .i64 1)), none⟩, ⟨some 28, .mov (.t 56), none⟩])))))
def lp117_1 : C := lb117_1
def lb117_0 : C := .kl [57] (.seq (.reg [⟨some 21, .bin .lss (.t 20) (.t 19), none⟩]) (.seq (.cond (.t 21) (.skip) (.kl [1, 2, 18, 19, 20, 21] (.exit 0))) (.kl [21] (.seq (.blk 1 (.seq (.reg [⟨some 22, .mov (.t 20), none⟩, ⟨some 23, .iaddr 1 (.t 18) (.t 20), none⟩, ⟨some 24, .load false 1 (.t 23), none⟩, ⟨some 8, .mov (.t 22), none⟩, ⟨some 9, .mov (.t 24), none⟩]) (.kl [22, 23, 24] (.seq (.reg [⟨some 25, .mov (.t 9), none⟩, ⟨some 26, .call 119 [.t 25, .c (.bool true), .c (.bool true)], none⟩, ⟨some 27, .lenV (.t 26), none⟩, ⟨some 28, .mov (.c (.int .i64 0)), none⟩]) (.kl [25] (.blk 2 (.loop lp117_1))))))) (.reg [⟨some 57, .bin .add (.t 20) (.c (.int .i64 1)), none⟩, ⟨some 20, .mov (.t 57), none⟩])))))
def lp117_0 : C := lb117_0
def fi117 : FI := ⟨.seq (.reg [⟨some 6, .mov (.c (.nilS)), none⟩]) (.kl [6] (.seq (.reg [⟨some 15, .mov (.t 2), none⟩, ⟨some 16, .lenV (.t 15), none⟩, ⟨some 17, .make 1 [.int .i64 0] (.t 16) (.t 16), none⟩, ⟨some 7, .mov (.t 17), none⟩]) (.kl [15, 16, 17] (.seq (.seq (.reg [⟨some 18, .mov (.t 0), none⟩, ⟨some 19, .lenV (.t 18), none⟩, ⟨some 20, .mov (.c (.int .i64 0)), none⟩]) (.kl [0] (.blk 0 (.loop lp117_0)))) (.seq (.reg [⟨some 58, .mov (.t 7), none⟩, ⟨some 6, .mov (.t 58), none⟩]) (.kl [7, 58] (.ret))))))), [.tmp 6]⟩
-- lp119_0 HEAD [0, 1, 2, 7, 12] | exit 0: [7] | exit 1: [0, 1, 2, 7, 12] | exit 2: [0, 1, 2, 7, 12]
-- lp119_1 HEAD [0, 1, 2, 7, 8, 9, 12] | exit 2: [0, 1, 2, 7, 12]
/-- spec.liMoves -/
def lb119_1 : C := .kl [40, 41] (.seq (.seq (.reg [⟨some 36, .mov (.t 9), none⟩, ⟨some 37, .mov (.t 8), none⟩, ⟨some 38, .bin .add (.t 37) (.c (.int .i64 2)), none⟩, ⟨some 39, .bin .leq (.t 36) (.t 38), none⟩]) (.kl [36, 37, 38] (.cond (.t 39) (.skip) (.kl [8, 9, 39] (.exit 2))))) (.kl [39] (.seq (.blk 3 (.seq (.reg [⟨some 42, .mov (.t 8), none⟩, ⟨some 43, .mov (.t 9), none⟩, ⟨some 44, .build [.int .i64 0, .int .i64 0] [(0, 1, .t 42), (1, 1, .t 43)], none⟩, ⟨some 10, .new [.int .i64 0, .int .i64 0], none⟩, ⟨none, .store 2 (.t 10) (.t 44), none⟩]) (.kl [42, 43, 44] (.seq (.reg [⟨some 45, .mov (.t 0), none⟩, ⟨some 46, .load true 2 (.t 10), none⟩, ⟨some 47, .call 130 [.t 45, .t 46], none⟩]) (.kl [45, 46] (.cond (.t 47) (.kl [47] (.reg [⟨some 48, .mov (.t 7), none⟩, ⟨some 49, .load true 2 (.t 10), none⟩, ⟨some 50, .lit 2 1 [.int .i64 0, .int .i64 0] [(0, 2, .t 49)], none⟩, ⟨some 51, .app 2 (.t 48) (.t 50), none⟩, ⟨some 7, .mov (.t 51), none⟩])) (.skip))))))) (.kl [10, 47, 48, 49, 50, 51] (.reg [⟨some 40, .mov (.t 9), none⟩, ⟨some 41, .bin .add (.t 40) (.c (.int .i64 1)), none⟩, ⟨some 9, .mov (.t 41), none⟩])))))
def lp119_1 : C := lb119_1
def lb119_0 : C := .kl [] (.seq (.reg [⟨some 13, .nxt (.t 12), none⟩, ⟨some 14, .prj 0 (.t 13), none⟩]) (.seq (.cond (.t 14) (.skip) (.kl [0, 1, 2, 12, 13, 14] (.exit 0))) (.kl [14] (.blk 1 (.seq (.reg [⟨some 15, .prj 1 (.t 13), none⟩, ⟨some 8, .mov (.t 15), none⟩]) (.kl [13, 15] (.seq (.seq (.reg [⟨some 16, .mov (.t 0), none⟩, ⟨some 17, .mov (.t 8), none⟩, ⟨some 18, .idxS (.t 16) (.t 17), none⟩, ⟨some 19, .bin .eql (.t 18) (.c (.int .u8 84)), none⟩, ⟨some 20, .mov (.t 19), none⟩, ⟨some 21, .mov (.t 1), some (20, true)⟩, ⟨some 22, .un .not (.t 21), some (20, true)⟩, ⟨some 23, .pick (.t 20) (.t 22) (.c (.bool false)), none⟩, ⟨some 24, .mov (.t 23), none⟩, ⟨some 25, .mov (.t 0), some (24, false)⟩, ⟨some 26, .mov (.t 8), some (24, false)⟩, ⟨some 27, .idxS (.t 25) (.t 26), some (24, false)⟩, ⟨some 28, .bin .eql (.t 27) (.c (.int .u8 70)), some (24, false)⟩, ⟨some 29, .mov (.t 28), some (24, false)⟩, ⟨some 30, .mov (.t 2), some (29, true)⟩, ⟨some 31, .un .not (.t 30), some (29, true)⟩, ⟨some 32, .pick (.t 29) (.t 31) (.c (.bool false)), some (24, false)⟩, ⟨some 33, .pick (.t 24) (.c (.bool true)) (.t 32), none⟩]) (.kl [16, 17, 18, 19, 20, 21, 22, 23, 24, 25, 26, 27, 28, 29, 30, 31, 32] (.cond (.t 33) (.kl [8, 33] (.exit 1)) (.skip)))) (.kl [33] (.seq (.reg [⟨some 34, .mov (.t 8), none⟩, ⟨some 35, .bin .sub (.t 34) (.c (.int .i64 2)), none⟩, ⟨some 9, .mov (.t 35), none⟩]) (.kl [34, 35] (.blk 2 (.loop lp119_1))))))))))))
def lp119_0 : C := lb119_0
def fi119 : FI := ⟨.seq (.reg [⟨some 6, .mov (.c (.nilS)), none⟩]) (.kl [6] (.seq (.reg [⟨some 7, .mov (.c (.nilS)), none⟩]) (.seq (.seq (.reg [⟨some 11, .mov (.t 0), none⟩, ⟨some 12, .rng (.t 11), none⟩]) (.kl [11] (.blk 0 (.loop lp119_0)))) (.seq (.reg [⟨some 52, .mov (.t 7), none⟩, ⟨some 6, .mov (.t 52), none⟩]) (.kl [7, 52] (.ret)))))), [.tmp 6]⟩
/-- spec.liMake -/
def fi66 : FI := ⟨.seq (.reg [⟨some 3, .box (.t 1), none⟩, ⟨some 4, .mov (.c (.str [])), none⟩]) (.kl [1, 4] (.seq (.reg [⟨some 6, .mov (.t 0), none⟩, ⟨some 7, .faddr 0 1 (.t 3), none⟩, ⟨some 8, .load false 1 (.t 7), none⟩, ⟨some 9, .faddr 0 1 (.t 3), none⟩, ⟨some 10, .load false 1 (.t 9), none⟩, ⟨some 11, .bin .add (.t 10) (.c (.int .i64 1)), none⟩, ⟨some 12, .subS (.t 6) (some (.t 8)) (some (.t 11)), none⟩, ⟨some 5, .mov (.t 12), none⟩]) (.kl [6, 7, 8, 9, 10, 11, 12] (.seq (.drw [⟨some 13, .mov (.t 0), none⟩, ⟨some 14, .faddr 0 1 (.t 3), none⟩, ⟨some 15, .load false 1 (.t 14), none⟩, ⟨some 16, .call 108 [.t 13, .t 15, .c (.str [46])], none⟩, ⟨some 17, .faddr 1 1 (.t 3), none⟩, ⟨some 18, .load false 1 (.t 17), none⟩, ⟨some 19, .mov (.t 5), none⟩, ⟨some 20, .call 108 [.t 16, .t 18, .t 19], none⟩, ⟨some 4, .mov (.t 20), none⟩] [(5, 3)]) (.kl [0, 3, 5, 13, 14, 15, 16, 17, 18, 19, 20] (.ret)))))), [.tmp 4]⟩
/-- impl.hasOneGap -/
def fi121 : FI := ⟨.seq (.reg [⟨some 2, .mov (.c (.bool false)), none⟩]) (.kl [2] (.seq (.reg [⟨some 3, .mov (.t 0), none⟩, ⟨some 4, .call 56 [.t 3], none⟩, ⟨some 5, .mov (.t 4), none⟩, ⟨some 6, .mov (.t 0), some (5, true)⟩, ⟨some 7, .call 131 [.t 6, .c (.str [46])], some (5, true)⟩, ⟨some 8, .bin .eql (.t 7) (.c (.int .i64 1)), some (5, true)⟩, ⟨some 9, .pick (.t 5) (.t 8) (.c (.bool false)), none⟩, ⟨some 2, .mov (.t 9), none⟩]) (.kl [0, 3, 4, 5, 6, 7, 8, 9] (.ret)))), [.tmp 2]⟩
/-- impl.within -/
def fi74 : FI := ⟨.seq (.reg [⟨some 6, .mov (.c (.bool false)), none⟩]) (.kl [6] (.seq (.reg [⟨some 7, .mov (.t 1), none⟩, ⟨some 8, .mov (.t 0), none⟩, ⟨some 9, .bin .leq (.t 7) (.t 8), none⟩, ⟨some 10, .mov (.t 9), none⟩, ⟨some 11, .mov (.t 0), some (10, true)⟩, ⟨some 12, .mov (.t 2), some (10, true)⟩, ⟨some 13, .bin .leq (.t 11) (.t 12), some (10, true)⟩, ⟨some 14, .pick (.t 10) (.t 13) (.c (.bool false)), none⟩, ⟨some 6, .mov (.t 14), none⟩]) (.kl [0, 1, 2, 7, 8, 9, 10, 11, 12, 13, 14] (.ret)))), [.tmp 6]⟩
-- lp105_0 HEAD [0, 1, 5, 11, 12] | exit 0: [5]
/-- impl.moves -/
def lb105_0 : C := .kl [37] (.seq (.reg [⟨some 13, .bin .lss (.t 12) (.t 11), none⟩]) (.seq (.cond (.t 13) (.skip) (.kl [0, 1, 11, 12, 13] (.exit 0))) (.kl [13] (.seq (.blk 1 (.seq (.reg [⟨some 14, .mov (.t 12), none⟩, ⟨some 6, .mov (.t 14), none⟩]) (.kl [14] (.seq (.reg [⟨some 16, .mov (.t 0), none⟩, ⟨some 17, .mov (.t 6), none⟩, ⟨some 18, .call 127 [.t 16, .t 17], none⟩, ⟨some 15, .mov (.t 18), none⟩, ⟨some 19, .prj 0 (.t 15), none⟩, ⟨some 20, .prj 1 (.t 15), none⟩, ⟨some 7, .mov (.t 19), none⟩, ⟨some 8, .mov (.t 20), none⟩]) (.kl [15, 16, 17, 18, 19, 20] (.seq (.reg [⟨some 21, .mov (.t 8), none⟩, ⟨some 22, .mov (.t 21), none⟩, ⟨some 23, .mov (.t 1), some (22, true)⟩, ⟨some 24, .mov (.t 0), some (22, true)⟩, ⟨some 25, .mov (.t 6), some (22, true)⟩, ⟨some 26, .mov (.t 6), some (22, true)⟩, ⟨some 27, .bin .add (.t 26) (.c (.int .i64 1)), some (22, true)⟩, ⟨some 28, .subS (.t 24) (some (.t 25)) (some (.t 27)), some (22, true)⟩, ⟨some 29, .call 126 [.t 23, .t 28], some (22, true)⟩, ⟨some 30, .pick (.t 22) (.t 29) (.c (.bool false)), none⟩]) (.kl [8, 21, 22, 23, 24, 25, 26, 27, 28, 29] (.cond (.t 30) (.kl [30] (.reg [⟨some 31, .mov (.t 5), none⟩, ⟨some 32, .mov (.t 6), none⟩, ⟨some 33, .mov (.t 7), none⟩, ⟨some 34, .build [.int .i64 0, .int .i64 0] [(0, 1, .t 32), (1, 1, .t 33)], none⟩, ⟨some 35, .lit 2 1 [.int .i64 0, .int .i64 0] [(0, 2, .t 34)], none⟩, ⟨some 36, .app 2 (.t 31) (.t 35), none⟩, ⟨some 5, .mov (.t 36), none⟩])) (.skip))))))))) (.kl [6, 7, 30, 31, 32, 33, 34, 35, 36] (.reg [⟨some 37, .bin .add (.t 12) (.c (.int .i64 1)), none⟩, ⟨some 12, .mov (.t 37), none⟩]))))))
def lp105_0 : C := lb105_0
def fi105 : FI := ⟨.seq (.reg [⟨some 4, .mov (.c (.nilS)), none⟩]) (.kl [4] (.seq (.reg [⟨some 9, .lit0, none⟩, ⟨some 5, .mov (.t 9), none⟩]) (.kl [9] (.seq (.seq (.reg [⟨some 10, .mov (.t 0), none⟩, ⟨some 11, .lenS (.t 10), none⟩, ⟨some 12, .mov (.c (.int .i64 0)), none⟩]) (.kl [10] (.blk 0 (.loop lp105_0)))) (.seq (.reg [⟨some 38, .mov (.t 5), none⟩, ⟨some 4, .mov (.t 38), none⟩]) (.kl [5, 38] (.ret))))))), [.tmp 4]⟩
-- lp104_0 HEAD [0, 3] | exit 0: [] | ret: [2]
/-- spec.liGood -/
def lb104_0 : C := .kl [12, 13] (.seq (.seq (.reg [⟨some 8, .mov (.t 3), none⟩, ⟨some 9, .mov (.t 0), none⟩, ⟨some 10, .lenS (.t 9), none⟩, ⟨some 11, .bin .lss (.t 8) (.t 10), none⟩]) (.kl [8, 9, 10] (.cond (.t 11) (.skip) (.kl [0, 3, 11] (.exit 0))))) (.kl [11] (.seq (.blk 1 (.seq (.reg [⟨some 14, .mov (.t 0), none⟩, ⟨some 15, .mov (.t 3), none⟩, ⟨some 16, .idxS (.t 14) (.t 15), none⟩, ⟨some 17, .bin .neq (.t 16) (.c (.int .u8 84)), none⟩, ⟨some 18, .mov (.t 17), none⟩, ⟨some 19, .mov (.t 0), some (18, true)⟩, ⟨some 20, .mov (.t 3), some (18, true)⟩, ⟨some 21, .idxS (.t 19) (.t 20), some (18, true)⟩, ⟨some 22, .bin .neq (.t 21) (.c (.int .u8 70)), some (18, true)⟩, ⟨some 23, .pick (.t 18) (.t 22) (.c (.bool false)), none⟩, ⟨some 24, .mov (.t 23), none⟩, ⟨some 25, .mov (.t 0), some (24, true)⟩, ⟨some 26, .mov (.t 3), some (24, true)⟩, ⟨some 27, .idxS (.t 25) (.t 26), some (24, true)⟩, ⟨some 28, .bin .neq (.t 27) (.c (.int .u8 46)), some (24, true)⟩, ⟨some 29, .pick (.t 24) (.t 28) (.c (.bool false)), none⟩]) (.kl [14, 15, 16, 17, 18, 19, 20, 21, 22, 23, 24, 25, 26, 27, 28] (.cond (.t 29) (.kl [0, 3, 29] (.seq (.reg [⟨some 2, .mov (.c (.bool false)), none⟩]) (.ret))) (.skip))))) (.kl [29] (.reg [⟨some 12, .mov (.t 3), none⟩, ⟨some 13, .bin .add (.t 12) (.c (.int .i64 1)), none⟩, ⟨some 3, .mov (.t 13), none⟩])))))
def lp104_0 : C := lb104_0
def fi104 : FI := ⟨.seq (.reg [⟨some 2, .mov (.c (.bool false)), none⟩]) (.kl [2] (.seq (.seq (.reg [⟨some 4, .mov (.t 0), none⟩, ⟨some 5, .lenS (.t 4), none⟩, ⟨some 6, .call 77 [.t 5, .c (.int .i64 1), .c (.int .i64 12)], none⟩, ⟨some 7, .un .not (.t 6), none⟩]) (.kl [4, 5, 6] (.cond (.t 7) (.kl [0, 7] (.seq (.reg [⟨some 2, .mov (.c (.bool false)), none⟩]) (.ret))) (.skip)))) (.kl [7] (.seq (.seq (.reg [⟨some 3, .mov (.c (.int .i64 0)), none⟩]) (.blk 0 (.loop lp104_0))) (.seq (.reg [⟨some 2, .mov (.c (.bool true)), none⟩]) (.ret)))))), [.tmp 2]⟩
/-- spec.swLive -/
def fi242 : FI := ⟨.seq (.reg [⟨some 8, .mov (.c (.nilS)), none⟩]) (.kl [8] (.seq (.reg [⟨some 10, .mov (.t 1), none⟩, ⟨some 11, .mov (.t 2), none⟩, ⟨some 12, .mov (.t 3), none⟩, ⟨some 13, .call 100 [.t 10, .t 11, .t 12], none⟩, ⟨some 9, .mov (.t 13), none⟩]) (.kl [1, 2, 3, 10, 11, 12, 13] (.seq (.seq (.reg [⟨some 14, .mov (.t 0), none⟩, ⟨some 15, .mov (.t 9), none⟩, ⟨some 16, .call 244 [.t 14, .t 15], none⟩, ⟨some 17, .bin .eql (.t 16) (.c (.int .i64 0)), none⟩]) (.kl [14, 15, 16] (.cond (.t 17) (.kl [0, 9, 17] (.seq (.reg [⟨some 8, .mov (.c (.nilS)), none⟩]) (.ret))) (.skip)))) (.kl [17] (.seq (.reg [⟨some 18, .mov (.t 0), none⟩, ⟨some 19, .mov (.t 9), none⟩, ⟨some 20, .call 250 [.t 18, .t 19], none⟩, ⟨some 8, .mov (.t 20), none⟩]) (.kl [0, 9, 18, 19, 20] (.ret)))))))), [.tmp 8]⟩
-- lp243_0 HEAD [1, 7, 8, 9] | exit 0: [] | ret: [4]
/-- spec.l1HasS -/
def lb243_0 : C := .kl [16] (.seq (.reg [⟨some 10, .bin .lss (.t 9) (.t 8), none⟩]) (.seq (.cond (.t 10) (.skip) (.kl [1, 7, 8, 9, 10] (.exit 0))) (.kl [10] (.seq (.blk 1 (.seq (.reg [⟨some 11, .iaddr 1 (.t 7) (.t 9), none⟩, ⟨some 12, .load false 1 (.t 11), none⟩, ⟨some 6, .mov (.t 12), none⟩]) (.kl [11, 12] (.seq (.reg [⟨some 13, .mov (.t 6), none⟩, ⟨some 14, .mov (.t 1), none⟩, ⟨some 15, .bin .eql (.t 13) (.t 14), none⟩]) (.kl [6, 13, 14] (.cond (.t 15) (.kl [1, 7, 8, 9, 15] (.seq (.reg [⟨some 4, .mov (.c (.bool true)), none⟩]) (.ret))) (.skip))))))) (.kl [15] (.reg [⟨some 16, .bin .add (.t 9) (.c (.int .i64 1)), none⟩, ⟨some 9, .mov (.t 16), none⟩]))))))
def lp243_0 : C := lb243_0
def fi243 : FI := ⟨.seq (.reg [⟨some 4, .mov (.c (.bool false)), none⟩]) (.kl [4] (.seq (.seq (.reg [⟨some 7, .mov (.t 0), none⟩, ⟨some 8, .lenV (.t 7), none⟩, ⟨some 9, .mov (.c (.int .i64 0)), none⟩]) (.kl [0] (.blk 0 (.loop lp243_0)))) (.seq (.reg [⟨some 4, .mov (.c (.bool false)), none⟩]) (.ret)))), [.tmp 4]⟩
-- lp244_0 HEAD [0, 1, 13, 14, 15] | exit 0: [0, 1] | ret: [4]
-- lp244_1 HEAD [0, 1, 7, 36, 37, 38] | exit 2: [0, 1, 7]
/-- (*spec.swEnds).from -/
def lb244_1 : C := .kl [49] (.seq (.reg [⟨some 39, .bin .lss (.t 38) (.t 37), none⟩]) (.seq (.cond (.t 39) (.skip) (.kl [36, 37, 38, 39] (.exit 2))) (.kl [39] (.seq (.blk 3 (.seq (.reg [⟨some 40, .iaddr 2 (.t 36) (.t 38), none⟩, ⟨some 41, .load true 2 (.t 40), none⟩, ⟨some 9, .new [.int .i64 0, .int .i64 0], none⟩, ⟨none, .store 2 (.t 9) (.t 41), none⟩]) (.kl [40, 41] (.reg [⟨some 42, .mov (.t 7), none⟩, ⟨some 43, .mov (.t 0), none⟩, ⟨some 44, .mov (.t 1), none⟩, ⟨some 45, .load true 2 (.t 9), none⟩, ⟨some 46, .call 66 [.t 44, .t 45], none⟩, ⟨some 47, .call 244 [.t 43, .t 46], none⟩, ⟨some 48, .bin .add (.t 42) (.t 47), none⟩, ⟨some 7, .mov (.t 48), none⟩])))) (.kl [9, 42, 43, 44, 45, 46, 47, 48] (.reg [⟨some 49, .bin .add (.t 38) (.c (.int .i64 1)), none⟩, ⟨some 38, .mov (.t 49), none⟩]))))))
def lp244_1 : C := lb244_1
def lb244_0 : C := .kl [30] (.seq (.reg [⟨some 16, .bin .lss (.t 15) (.t 14), none⟩]) (.seq (.cond (.t 16) (.skip) (.kl [13, 14, 15, 16] (.exit 0))) (.kl [16] (.seq (.blk 1 (.seq (.reg [⟨some 17, .mov (.t 15), none⟩, ⟨some 18, .iaddr 1 (.t 13) (.t 15), none⟩, ⟨some 19, .load false 1 (.t 18), none⟩, ⟨some 5, .mov (.t 17), none⟩, ⟨some 6, .mov (.t 19), none⟩]) (.kl [17, 18, 19] (.seq (.reg [⟨some 20, .mov (.t 6), none⟩, ⟨some 21, .mov (.t 1), none⟩, ⟨some 22, .bin .eql (.t 20) (.t 21), none⟩]) (.kl [6, 20, 21] (.cond (.t 22) (.kl [1, 13, 14, 15, 22] (.seq (.reg [⟨some 23, .mov (.t 0), none⟩, ⟨some 24, .nck (.t 23), none⟩, ⟨some 25, .faddr 1 1 (.t 24), none⟩, ⟨some 26, .load false 1 (.t 25), none⟩, ⟨some 27, .mov (.t 5), none⟩, ⟨some 28, .iaddr 1 (.t 26) (.t 27), none⟩, ⟨some 29, .load false 1 (.t 28), none⟩, ⟨some 4, .mov (.t 29), none⟩]) (.kl [0, 5, 23, 24, 25, 26, 27, 28, 29] (.ret)))) (.skip))))))) (.kl [5, 22] (.reg [⟨some 30, .bin .add (.t 15) (.c (.int .i64 1)), none⟩, ⟨some 15, .mov (.t 30), none⟩]))))))
def lp244_0 : C := lb244_0
def fi244 : FI := ⟨.seq (.reg [⟨some 4, .mov (.c (.int .i64 0)), none⟩]) (.kl [4] (.seq (.seq (.reg [⟨some 10, .mov (.t 0), none⟩, ⟨some 11, .nck (.t 10), none⟩, ⟨some 12, .faddr 0 1 (.t 11), none⟩, ⟨some 13, .load false 1 (.t 12), none⟩, ⟨some 14, .lenV (.t 13), none⟩, ⟨some 15, .mov (.c (.int .i64 0)), none⟩]) (.kl [10, 11, 12] (.blk 0 (.loop lp244_0)))) (.seq (.reg [⟨some 7, .mov (.c (.int .i64 0)), none⟩]) (.seq (.seq (.reg [⟨some 31, .mov (.t 1), none⟩, ⟨some 32, .mov (.t 1), none⟩, ⟨some 33, .call 251 [.t 32], none⟩, ⟨some 34, .bin .eql (.t 31) (.t 33), none⟩]) (.kl [31, 32, 33] (.cond (.t 34) (.kl [7, 34] (.reg [⟨some 7, .mov (.c (.int .i64 1)), none⟩])) (.kl [34] (.seq (.reg [⟨some 35, .mov (.t 1), none⟩, ⟨some 36, .call 119 [.t 35, .c (.bool true), .c (.bool true)], none⟩, ⟨some 37, .lenV (.t 36), none⟩, ⟨some 38, .mov (.c (.int .i64 0)), none⟩]) (.kl [35] (.blk 2 (.loop lp244_1)))))))) (.seq (.reg [⟨some 50, .mov (.t 0), none⟩, ⟨some 51, .mov (.t 0), none⟩, ⟨some 52, .nck (.t 51), none⟩, ⟨some 53, .faddr 0 1 (.t 52), none⟩, ⟨some 54, .load false 1 (.t 53), none⟩, ⟨some 55, .mov (.t 1), none⟩, ⟨some 56, .lit 1 1 [.str []] [(0, 1, .t 55)], none⟩, ⟨some 57, .app 1 (.t 54) (.t 56), none⟩, ⟨some 58, .nck (.t 50), none⟩, ⟨some 59, .faddr 0 1 (.t 58), none⟩, ⟨none, .store 1 (.t 59) (.t 57), none⟩]) (.kl [1, 50, 51, 52, 53, 54, 55, 56, 57, 58, 59] (.seq (.reg [⟨some 60, .mov (.t 0), none⟩, ⟨some 61, .mov (.t 0), none⟩, ⟨some 62, .nck (.t 61), none⟩, ⟨some 63, .faddr 1 1 (.t 62), none⟩, ⟨some 64, .load false 1 (.t 63), none⟩, ⟨some 65, .mov (.t 7), none⟩, ⟨some 66, .lit 1 1 [.int .i64 0] [(0, 1, .t 65)], none⟩, ⟨some 67, .app 1 (.t 64) (.t 66), none⟩, ⟨some 68, .nck (.t 60), none⟩, ⟨some 69, .faddr 1 1 (.t 68), none⟩, ⟨none, .store 1 (.t 69) (.t 67), none⟩]) (.kl [0, 60, 61, 62, 63, 64, 65, 66, 67, 68, 69] (.seq (.reg [⟨some 70, .mov (.t 7), none⟩, ⟨some 4, .mov (.t 70), none⟩]) (.kl [7, 70] (.ret))))))))))), [.tmp 4]⟩
/-- impl.isLineOf -/
def fi82 : FI := ⟨.seq (.reg [⟨some 4, .mov (.c (.bool false)), none⟩]) (.kl [4] (.seq (.reg [⟨some 5, .mov (.t 0), none⟩, ⟨some 6, .lenS (.t 5), none⟩, ⟨some 7, .mov (.t 1), none⟩, ⟨some 8, .call 74 [.t 6, .c (.int .i64 1), .t 7], none⟩, ⟨some 9, .mov (.t 8), none⟩, ⟨some 10, .mov (.t 0), some (9, true)⟩, ⟨some 11, .call 111 [.t 10, .c (.str [46, 70, 84])], some (9, true)⟩, ⟨some 12, .bin .eql (.t 11) (.c (.str [])), some (9, true)⟩, ⟨some 13, .pick (.t 9) (.t 12) (.c (.bool false)), none⟩, ⟨some 4, .mov (.t 13), none⟩]) (.kl [0, 1, 5, 6, 7, 8, 9, 10, 11, 12, 13] (.ret)))), [.tmp 4]⟩
/-- impl.isLive -/
def fi245 : FI := ⟨.seq (.reg [⟨some 2, .mov (.c (.bool false)), none⟩]) (.kl [2] (.seq (.reg [⟨some 7, .mov (.t 0), none⟩, ⟨some 8, .call 189 [.t 7], none⟩, ⟨some 6, .mov (.t 8), none⟩, ⟨some 9, .prj 0 (.t 6), none⟩, ⟨some 10, .prj 1 (.t 6), none⟩, ⟨some 11, .prj 2 (.t 6), none⟩, ⟨some 3, .mov (.t 9), none⟩, ⟨some 4, .mov (.t 10), none⟩, ⟨some 5, .mov (.t 11), none⟩]) (.kl [6, 7, 8, 9, 10, 11] (.seq (.reg [⟨some 12, .mov (.t 0), none⟩, ⟨some 13, .call 237 [.t 12], none⟩, ⟨some 14, .call 238 [.t 13], none⟩, ⟨some 15, .mov (.t 0), none⟩, ⟨some 16, .call 252 [.t 14, .t 15], none⟩, ⟨some 17, .bin .gtr (.t 16) (.c (.int .i64 0)), none⟩, ⟨some 18, .mov (.t 17), none⟩, ⟨some 19, .mov (.t 0), some (18, true)⟩, ⟨some 20, .call 238 [.t 19], some (18, true)⟩, ⟨some 21, .mov (.t 3), some (18, true)⟩, ⟨some 22, .mov (.t 4), some (18, true)⟩, ⟨some 23, .mov (.t 5), some (18, true)⟩, ⟨some 24, .call 253 [.t 21, .t 22, .t 23], some (18, true)⟩, ⟨some 25, .call 252 [.t 20, .t 24], some (18, true)⟩, ⟨some 26, .bin .gtr (.t 25) (.c (.int .i64 0)), some (18, true)⟩, ⟨some 27, .pick (.t 18) (.t 26) (.c (.bool false)), none⟩, ⟨some 2, .mov (.t 27), none⟩]) (.kl [0, 3, 4, 5, 12, 13, 14, 15, 16, 17, 18, 19, 20, 21, 22, 23, 24, 25, 26, 27] (.ret)))))), [.tmp 2]⟩
/-- impl.count -/
def fi189 : FI := ⟨.seq (.reg [⟨some 2, .mov (.c (.int .i64 0)), none⟩, ⟨some 3, .mov (.c (.int .i64 0)), none⟩, ⟨some 4, .mov (.c (.int .i64 0)), none⟩]) (.kl [2, 3, 4] (.seq (.reg [⟨some 5, .mov (.t 0), none⟩, ⟨some 6, .call 131 [.t 5, .c (.str [84])], none⟩, ⟨some 7, .mov (.t 0), none⟩, ⟨some 8, .call 131 [.t 7, .c (.str [46])], none⟩, ⟨some 9, .mov (.t 0), none⟩, ⟨some 10, .call 131 [.t 9, .c (.str [70])], none⟩, ⟨some 2, .mov (.t 6), none⟩, ⟨some 3, .mov (.t 8), none⟩, ⟨some 4, .mov (.t 10), none⟩]) (.kl [0, 5, 6, 7, 8, 9, 10] (.ret)))), [.tmp 2, .tmp 3, .tmp 4]⟩
/-- impl.ordered -/
def fi246 : FI := ⟨.seq (.reg [⟨some 10, .mov (.c (.str [])), none⟩]) (.kl [10] (.seq (.reg [⟨some 11, .mov (.t 0), none⟩, ⟨some 12, .ofR (.t 11), none⟩, ⟨some 13, .mov (.t 1), none⟩, ⟨some 14, .call 123 [.t 12, .t 13], none⟩, ⟨some 15, .mov (.t 2), none⟩, ⟨some 16, .call 123 [.c (.str [46]), .t 15], none⟩, ⟨some 17, .bin .add (.t 14) (.t 16), none⟩, ⟨some 18, .mov (.t 3), none⟩, ⟨some 19, .ofR (.t 18), none⟩, ⟨some 20, .mov (.t 4), none⟩, ⟨some 21, .call 123 [.t 19, .t 20], none⟩, ⟨some 22, .bin .add (.t 17) (.t 21), none⟩, ⟨some 10, .mov (.t 22), none⟩]) (.kl [0, 1, 2, 3, 4, 11, 12, 13, 14, 15, 16, 17, 18, 19, 20, 21, 22] (.ret)))), [.tmp 10]⟩
-- lp248_0 HEAD [0, 1, 5, 6] | exit 0: [0, 5]
/-- slices.DeleteFunc[[]impl.Move,impl.Move] -/
def lb248_0 : C := .kl [20, 21] (.seq (.seq (.reg [⟨some 16, .mov (.t 6), none⟩, ⟨some 17, .mov (.t 0), none⟩, ⟨some 18, .lenV (.t 17), none⟩, ⟨some 19, .bin .lss (.t 16) (.t 18), none⟩]) (.kl [16, 17, 18] (.cond (.t 19) (.skip) (.kl [1, 6, 19] (.exit 0))))) (.kl [19] (.seq (.blk 1 (.seq (.reg [⟨some 22, .mov (.t 0), none⟩, ⟨some 23, .mov (.t 6), none⟩, ⟨some 24, .iaddr 2 (.t 22) (.t 23), none⟩, ⟨some 25, .load true 2 (.t 24), none⟩, ⟨some 7, .new [.int .i64 0, .int .i64 0], none⟩, ⟨none, .store 2 (.t 7) (.t 25), none⟩]) (.kl [22, 23, 24, 25] (.seq (.reg [⟨some 26, .mov (.t 1), none⟩, ⟨some 27, .load true 2 (.t 7), none⟩, ⟨some 28, .callv (.t 26) [.t 27], none⟩, ⟨some 29, .un .not (.t 28), none⟩]) (.kl [26, 27, 28] (.cond (.t 29) (.kl [29] (.seq (.reg [⟨some 30, .mov (.t 0), none⟩, ⟨some 31, .mov (.t 5), none⟩, ⟨some 32, .load true 2 (.t 7), none⟩, ⟨some 33, .iaddr 2 (.t 30) (.t 31), none⟩, ⟨none, .store 2 (.t 33) (.t 32), none⟩]) (.kl [7, 30, 31, 32, 33] (.reg [⟨some 34, .mov (.t 5), none⟩, ⟨some 35, .bin .add (.t 34) (.c (.int .i64 1)), none⟩, ⟨some 5, .mov (.t 35), none⟩])))) (.skip))))))) (.kl [7, 29, 34, 35] (.reg [⟨some 20, .mov (.t 6), none⟩, ⟨some 21, .bin .add (.t 20) (.c (.int .i64 1)), none⟩, ⟨some 6, .mov (.t 21), none⟩])))))
def lp248_0 : C := lb248_0
def fi248 : FI := ⟨.seq (.reg [⟨some 4, .mov (.c (.nilS)), none⟩]) (.kl [4] (.seq (.reg [⟨some 8, .mov (.t 0), none⟩, ⟨some 9, .mov (.t 1), none⟩, ⟨some 10, .call 205 [.t 8, .t 9], none⟩, ⟨some 5, .mov (.t 10), none⟩]) (.kl [8, 9, 10] (.seq (.seq (.reg [⟨some 11, .mov (.t 5), none⟩, ⟨some 12, .bin .eql (.t 11) (.c (.int .i64 (-1))), none⟩]) (.kl [11] (.cond (.t 12) (.kl [1, 5, 12] (.seq (.reg [⟨some 13, .mov (.t 0), none⟩, ⟨some 4, .mov (.t 13), none⟩]) (.kl [0, 13] (.ret)))) (.skip)))) (.kl [12] (.seq (.seq (.reg [⟨some 14, .mov (.t 5), none⟩, ⟨some 15, .bin .add (.t 14) (.c (.int .i64 1)), none⟩, ⟨some 6, .mov (.t 15), none⟩]) (.kl [14, 15] (.blk 0 (.loop lp248_0)))) (.seq (.reg [⟨some 36, .mov (.t 0), none⟩, ⟨some 37, .mov (.t 5), none⟩, ⟨some 38, .sub 2 (.t 36) (some (.t 37)) none, none⟩, ⟨none, .clr [.int .i64 0, .int .i64 0] (.t 38), none⟩]) (.kl [36, 37, 38] (.seq (.reg [⟨some 39, .mov (.t 0), none⟩, ⟨some 40, .mov (.t 5), none⟩, ⟨some 41, .sub 2 (.t 39) none (some (.t 40)), none⟩, ⟨some 4, .mov (.t 41), none⟩]) (.kl [0, 5, 39, 40, 41] (.ret))))))))))), [.tmp 4]⟩
/-- (impl.swaps).live$1 -/
def fi247 : FI := ⟨.seq (.reg [⟨some 3, .box (.t 0), none⟩, ⟨some 4, .mov (.c (.bool false)), none⟩]) (.kl [0, 4] (.seq (.drw [⟨some 5, .load true 2 (.t 1), none⟩, ⟨some 6, .load false 1 (.t 2), none⟩, ⟨some 7, .load true 2 (.t 3), none⟩, ⟨some 8, .call 61 [.t 6, .t 7], none⟩, ⟨some 9, .call 252 [.t 5, .t 8], none⟩, ⟨some 10, .bin .eql (.t 9) (.c (.int .i64 0)), none⟩, ⟨some 4, .mov (.t 10), none⟩] [(0, 3)]) (.kl [1, 2, 3, 5, 6, 7, 8, 9, 10] (.ret)))), [.tmp 4]⟩
-- lp252_0 HEAD [1, 2, 7, 20, 21, 22] | exit 0: [1, 2, 7]
/-- (impl.swaps).from -/
def lb252_0 : C := .kl [33] (.seq (.reg [⟨some 23, .bin .lss (.t 22) (.t 21), none⟩]) (.seq (.cond (.t 23) (.skip) (.kl [20, 21, 22, 23] (.exit 0))) (.kl [23] (.seq (.blk 1 (.seq (.reg [⟨some 24, .iaddr 2 (.t 20) (.t 22), none⟩, ⟨some 25, .load true 2 (.t 24), none⟩, ⟨some 9, .new [.int .i64 0, .int .i64 0], none⟩, ⟨none, .store 2 (.t 9) (.t 25), none⟩]) (.kl [24, 25] (.drw [⟨some 26, .mov (.t 7), none⟩, ⟨some 27, .load true 2 (.t 2), none⟩, ⟨some 28, .mov (.t 1), none⟩, ⟨some 29, .load true 2 (.t 9), none⟩, ⟨some 30, .call 61 [.t 28, .t 29], none⟩, ⟨some 31, .call 252 [.t 27, .t 30], none⟩, ⟨some 32, .bin .add (.t 26) (.t 31), none⟩, ⟨some 7, .mov (.t 32), none⟩] [(1, 4)])))) (.kl [9, 26, 27, 28, 29, 30, 31, 32] (.reg [⟨some 33, .bin .add (.t 22) (.c (.int .i64 1)), none⟩, ⟨some 22, .mov (.t 33), none⟩]))))))
def lp252_0 : C := lb252_0
def fi252 : FI := ⟨.seq (.reg [⟨some 2, .box (.t 0), none⟩, ⟨some 4, .mov (.c (.int .i64 0)), none⟩]) (.kl [0, 4] (.seq (.seq (.reg [⟨some 11, .faddr 1 1 (.t 2), none⟩, ⟨some 12, .load false 1 (.t 11), none⟩, ⟨some 13, .mov (.t 1), none⟩, ⟨some 14, .look 1 (.int .i64 0) true (.t 12) (.t 13), none⟩, ⟨some 10, .mov (.t 14), none⟩, ⟨some 15, .prj 0 (.t 10), none⟩, ⟨some 16, .prj 1 (.t 10), none⟩, ⟨some 5, .mov (.t 15), none⟩, ⟨some 6, .mov (.t 16), none⟩]) (.kl [10, 11, 12, 13, 14, 15, 16] (.seq (.reg [⟨some 17, .mov (.t 6), none⟩]) (.kl [6] (.cond (.t 17) (.kl [1, 2, 17] (.seq (.reg [⟨some 18, .mov (.t 5), none⟩, ⟨some 4, .mov (.t 18), none⟩]) (.kl [5, 18] (.ret)))) (.skip)))))) (.kl [5, 17] (.seq (.reg [⟨some 7, .mov (.c (.int .i64 0)), none⟩]) (.seq (.seq (.reg [⟨some 19, .mov (.t 1), none⟩, ⟨some 20, .call 105 [.t 19, .c (.str [84, 70])], none⟩, ⟨some 21, .lenV (.t 20), none⟩, ⟨some 22, .mov (.c (.int .i64 0)), none⟩]) (.kl [19] (.blk 0 (.loop lp252_0)))) (.seq (.reg [⟨some 34, .faddr 1 1 (.t 2), none⟩, ⟨some 35, .load false 1 (.t 34), none⟩, ⟨some 36, .mov (.t 1), none⟩, ⟨some 37, .mov (.t 7), none⟩, ⟨none, .mset 1 (.t 35) (.t 36) (.t 37), none⟩]) (.kl [1, 2, 34, 35, 36, 37] (.seq (.reg [⟨some 38, .mov (.t 7), none⟩, ⟨some 4, .mov (.t 38), none⟩]) (.kl [7, 38] (.ret)))))))))), [.tmp 4]⟩
-- lp129_0 HEAD [0, 1, 5, 6] | exit 0: [0, 1, 5]
/-- spec.reAdd -/
def lb129_0 : C := .kl [7, 24, 25, 26] (.seq (.seq (.reg [⟨some 11, .mov (.t 5), none⟩, ⟨some 12, .mov (.t 6), none⟩, ⟨some 13, .bin .lss (.t 11) (.t 12), none⟩]) (.kl [11, 12] (.cond (.t 13) (.skip) (.kl [6, 13] (.exit 0))))) (.kl [13] (.blk 1 (.seq (.reg [⟨some 14, .mov (.t 5), none⟩, ⟨some 15, .mov (.t 6), none⟩, ⟨some 16, .bin .add (.t 14) (.t 15), none⟩, ⟨some 17, .bin .quo (.t 16) (.c (.int .i64 2)), none⟩, ⟨some 7, .mov (.t 17), none⟩]) (.kl [14, 15, 16, 17] (.seq (.reg [⟨some 18, .mov (.t 0), none⟩, ⟨some 19, .mov (.t 7), none⟩, ⟨some 20, .iaddr 1 (.t 18) (.t 19), none⟩, ⟨some 21, .load false 1 (.t 20), none⟩, ⟨some 22, .mov (.t 1), none⟩, ⟨some 23, .bin .lss (.t 21) (.t 22), none⟩]) (.kl [18, 19, 20, 21, 22] (.cond (.t 23) (.kl [5, 23] (.reg [⟨some 24, .mov (.t 7), none⟩, ⟨some 25, .bin .add (.t 24) (.c (.int .i64 1)), none⟩, ⟨some 5, .mov (.t 25), none⟩])) (.kl [6, 23] (.reg [⟨some 26, .mov (.t 7), none⟩, ⟨some 6, .mov (.t 26), none⟩]))))))))))
def lp129_0 : C := lb129_0
def fi129 : FI := ⟨.seq (.reg [⟨some 4, .mov (.c (.nilS)), none⟩]) (.kl [4] (.seq (.reg [⟨some 9, .mov (.t 0), none⟩, ⟨some 10, .lenV (.t 9), none⟩, ⟨some 5, .mov (.c (.int .i64 0)), none⟩, ⟨some 6, .mov (.t 10), none⟩]) (.kl [9, 10] (.seq (.blk 0 (.loop lp129_0)) (.seq (.seq (.reg [⟨some 27, .mov (.t 5), none⟩, ⟨some 28, .mov (.t 0), none⟩, ⟨some 29, .lenV (.t 28), none⟩, ⟨some 30, .bin .lss (.t 27) (.t 29), none⟩, ⟨some 31, .mov (.t 30), none⟩, ⟨some 32, .mov (.t 0), some (31, true)⟩, ⟨some 33, .mov (.t 5), some (31, true)⟩, ⟨some 34, .iaddr 1 (.t 32) (.t 33), some (31, true)⟩, ⟨some 35, .load false 1 (.t 34), some (31, true)⟩, ⟨some 36, .mov (.t 1), some (31, true)⟩, ⟨some 37, .bin .eql (.t 35) (.t 36), some (31, true)⟩, ⟨some 38, .pick (.t 31) (.t 37) (.c (.bool false)), none⟩]) (.kl [27, 28, 29, 30, 31, 32, 33, 34, 35, 36, 37] (.cond (.t 38) (.kl [1, 5, 38] (.seq (.reg [⟨some 39, .mov (.t 0), none⟩, ⟨some 4, .mov (.t 39), none⟩]) (.kl [0, 39] (.ret)))) (.skip)))) (.kl [38] (.seq (.reg [⟨some 40, .lit0, none⟩, ⟨some 41, .mov (.t 0), none⟩, ⟨some 42, .mov (.t 5), none⟩, ⟨some 43, .sub 1 (.t 41) none (some (.t 42)), none⟩, ⟨some 44, .app 1 (.t 40) (.t 43), none⟩, ⟨some 45, .mov (.t 1), none⟩, ⟨some 46, .lit 1 1 [.str []] [(0, 1, .t 45)], none⟩, ⟨some 47, .app 1 (.t 44) (.t 46), none⟩, ⟨some 8, .mov (.t 47), none⟩]) (.kl [1, 40, 41, 42, 43, 44, 45, 46, 47] (.seq (.reg [⟨some 48, .mov (.t 8), none⟩, ⟨some 49, .mov (.t 0), none⟩, ⟨some 50, .mov (.t 5), none⟩, ⟨some 51, .sub 1 (.t 49) (some (.t 50)) none, none⟩, ⟨some 52, .app 1 (.t 48) (.t 51), none⟩, ⟨some 4, .mov (.t 52), none⟩]) (.kl [0, 5, 8, 48, 49, 50, 51, 52] (.ret))))))))))), [.tmp 4]⟩
/-- spec.liCan -/
def fi130 : FI := ⟨.seq (.reg [⟨some 3, .box (.t 1), none⟩, ⟨some 4, .mov (.c (.bool false)), none⟩]) (.kl [1, 4] (.seq (.seq (.reg [⟨some 7, .faddr 0 1 (.t 3), none⟩, ⟨some 8, .load false 1 (.t 7), none⟩, ⟨some 9, .mov (.t 0), none⟩, ⟨some 10, .lenS (.t 9), none⟩, ⟨some 11, .bin .sub (.t 10) (.c (.int .i64 1)), none⟩, ⟨some 12, .call 77 [.t 8, .c (.int .i64 0), .t 11], none⟩, ⟨some 13, .un .not (.t 12), none⟩, ⟨some 14, .mov (.t 13), none⟩, ⟨some 15, .faddr 1 1 (.t 3), some (14, false)⟩, ⟨some 16, .load false 1 (.t 15), some (14, false)⟩, ⟨some 17, .mov (.t 0), some (14, false)⟩, ⟨some 18, .lenS (.t 17), some (14, false)⟩, ⟨some 19, .bin .sub (.t 18) (.c (.int .i64 1)), some (14, false)⟩, ⟨some 20, .call 77 [.t 16, .c (.int .i64 0), .t 19], some (14, false)⟩, ⟨some 21, .un .not (.t 20), some (14, false)⟩, ⟨some 22, .pick (.t 14) (.c (.bool true)) (.t 21), none⟩, ⟨some 23, .mov (.t 22), none⟩, ⟨some 24, .mov (.t 0), some (23, false)⟩, ⟨some 25, .faddr 1 1 (.t 3), some (23, false)⟩, ⟨some 26, .load false 1 (.t 25), some (23, false)⟩, ⟨some 27, .idxS (.t 24) (.t 26), some (23, false)⟩, ⟨some 28, .bin .neq (.t 27) (.c (.int .u8 46)), some (23, false)⟩, ⟨some 29, .pick (.t 23) (.c (.bool true)) (.t 28), none⟩]) (.kl [7, 8, 9, 10, 11, 12, 13, 14, 15, 16, 17, 18, 19, 20, 21, 22, 23, 24, 25, 26, 27, 28] (.cond (.t 29) (.kl [0, 3, 29] (.seq (.reg [⟨some 4, .mov (.c (.bool false)), none⟩]) (.ret))) (.skip)))) (.kl [29] (.seq (.reg [⟨some 5, .mov (.c (.int .i64 1)), none⟩, ⟨some 6, .mov (.c (.int .u8 70)), none⟩]) (.seq (.seq (.reg [⟨some 30, .mov (.t 0), none⟩, ⟨some 31, .faddr 0 1 (.t 3), none⟩, ⟨some 32, .load false 1 (.t 31), none⟩, ⟨some 33, .idxS (.t 30) (.t 32), none⟩]) (.kl [30, 31, 32] (.blk 0 (.seq (.reg [⟨some 35, .bin .eql (.t 33) (.c (.int .u8 84)), none⟩, ⟨some 34, .mov (.t 35), none⟩]) (.kl [35] (.cond (.t 34) (.skip) (.kl [5, 6, 34] (.seq (.reg [⟨some 37, .bin .eql (.t 33) (.c (.int .u8 70)), none⟩, ⟨some 36, .mov (.t 37), none⟩]) (.kl [33, 37] (.cond (.t 36) (.kl [36] (.seq (.reg [⟨some 5, .mov (.c (.int .i64 (-1))), none⟩]) (.reg [⟨some 6, .mov (.c (.int .u8 84)), none⟩]))) (.kl [0, 3, 36] (.seq (.reg [⟨some 4, .mov (.c (.bool false)), none⟩]) (.ret))))))))))))) (.kl [33, 34] (.seq (.reg [⟨some 38, .faddr 1 1 (.t 3), none⟩, ⟨some 39, .load false 1 (.t 38), none⟩, ⟨some 40, .faddr 0 1 (.t 3), none⟩, ⟨some 41, .load false 1 (.t 40), none⟩, ⟨some 42, .mov (.t 5), none⟩, ⟨some 43, .bin .add (.t 41) (.t 42), none⟩, ⟨some 44, .bin .eql (.t 39) (.t 43), none⟩, ⟨some 45, .mov (.t 44), none⟩, ⟨some 46, .faddr 1 1 (.t 3), some (45, false)⟩, ⟨some 47, .load false 1 (.t 46), some (45, false)⟩, ⟨some 48, .faddr 0 1 (.t 3), some (45, false)⟩, ⟨some 49, .load false 1 (.t 48), some (45, false)⟩, ⟨some 50, .mov (.t 5), some (45, false)⟩, ⟨some 51, .bin .mul (.c (.int .i64 2)) (.t 50), some (45, false)⟩, ⟨some 52, .bin .add (.t 49) (.t 51), some (45, false)⟩, ⟨some 53, .bin .eql (.t 47) (.t 52), some (45, false)⟩, ⟨some 54, .mov (.t 53), some (45, false)⟩, ⟨some 55, .mov (.t 0), some (54, true)⟩, ⟨some 56, .faddr 0 1 (.t 3), some (54, true)⟩, ⟨some 57, .load false 1 (.t 56), some (54, true)⟩, ⟨some 58, .mov (.t 5), some (54, true)⟩, ⟨some 59, .bin .add (.t 57) (.t 58), some (54, true)⟩, ⟨some 60, .idxS (.t 55) (.t 59), some (54, true)⟩, ⟨some 61, .mov (.t 6), some (54, true)⟩, ⟨some 62, .bin .eql (.t 60) (.t 61), some (54, true)⟩, ⟨some 63, .pick (.t 54) (.t 62) (.c (.bool false)), some (45, false)⟩, ⟨some 64, .pick (.t 45) (.c (.bool true)) (.t 63), none⟩, ⟨some 4, .mov (.t 64), none⟩]) (.kl [0, 3, 5, 6, 38, 39, 40, 41, 42, 43, 44, 45, 46, 47, 48, 49, 50, 51, 52, 53, 54, 55, 56, 57, 58, 59, 60, 61, 62, 63, 64] (.ret))))))))), [.tmp 4]⟩
/-- spec.liPut -/
def fi108 : FI := ⟨.seq (.reg [⟨some 6, .mov (.c (.str [])), none⟩]) (.kl [6] (.seq (.drw [⟨some 7, .mov (.t 0), none⟩, ⟨some 8, .mov (.t 1), none⟩, ⟨some 9, .subS (.t 7) none (some (.t 8)), none⟩, ⟨some 10, .mov (.t 2), none⟩, ⟨some 11, .bin .add (.t 9) (.t 10), none⟩, ⟨some 12, .mov (.t 0), none⟩, ⟨some 13, .mov (.t 1), none⟩, ⟨some 14, .bin .add (.t 13) (.c (.int .i64 1)), none⟩, ⟨some 15, .subS (.t 12) (some (.t 14)) none, none⟩, ⟨some 16, .bin .add (.t 11) (.t 15), none⟩, ⟨some 6, .mov (.t 16), none⟩] []) (.kl [0, 1, 2, 7, 8, 9, 10, 11, 12, 13, 14, 15, 16] (.ret)))), [.tmp 6]⟩
/-- impl.isReachLine -/
def fi56 : FI := ⟨.seq (.reg [⟨some 2, .mov (.c (.bool false)), none⟩]) (.kl [2] (.seq (.reg [⟨some 3, .mov (.t 0), none⟩, ⟨some 4, .call 82 [.t 3, .c (.int .i64 10)], none⟩, ⟨some 2, .mov (.t 4), none⟩]) (.kl [0, 3, 4] (.ret)))), [.tmp 2]⟩
/-- impl.goal -/
def fi127 : FI := ⟨.seq (.reg [⟨some 4, .mov (.c (.int .i64 0)), none⟩, ⟨some 5, .mov (.c (.bool false)), none⟩]) (.kl [4, 5] (.seq (.reg [⟨some 7, .mov (.t 0), none⟩, ⟨some 8, .mov (.t 1), none⟩, ⟨some 9, .idxS (.t 7) (.t 8), none⟩, ⟨some 10, .call 103 [.t 9], none⟩, ⟨some 6, .mov (.t 10), none⟩]) (.kl [7, 8, 9, 10] (.seq (.blk 0 (.seq (.reg [⟨some 12, .mov (.t 6), none⟩, ⟨some 13, .bin .eql (.t 12) (.c (.int .i64 0)), none⟩, ⟨some 11, .mov (.t 13), none⟩]) (.kl [12, 13] (.cond (.t 11) (.skip) (.kl [11] (.seq (.reg [⟨some 15, .mov (.t 0), none⟩, ⟨some 16, .mov (.t 1), none⟩, ⟨some 17, .mov (.t 6), none⟩, ⟨some 18, .bin .add (.t 16) (.t 17), none⟩, ⟨some 19, .call 125 [.t 15, .t 18], none⟩, ⟨some 20, .bin .eql (.t 19) (.c (.int .u8 46)), none⟩, ⟨some 14, .mov (.t 20), none⟩]) (.kl [15, 16, 17, 18, 19, 20] (.cond (.t 14) (.kl [0, 14] (.seq (.reg [⟨some 21, .mov (.t 1), none⟩, ⟨some 22, .mov (.t 6), none⟩, ⟨some 23, .bin .add (.t 21) (.t 22), none⟩, ⟨some 4, .mov (.t 23), none⟩, ⟨some 5, .mov (.c (.bool true)), none⟩]) (.kl [1, 6, 21, 22, 23] (.ret)))) (.kl [14] (.seq (.drw [⟨some 25, .mov (.t 0), none⟩, ⟨some 26, .mov (.t 1), none⟩, ⟨some 27, .mov (.t 6), none⟩, ⟨some 28, .bin .add (.t 26) (.t 27), none⟩, ⟨some 29, .call 125 [.t 25, .t 28], none⟩, ⟨some 30, .mov (.t 0), none⟩, ⟨some 31, .mov (.t 1), none⟩, ⟨some 32, .idxS (.t 30) (.t 31), none⟩, ⟨some 33, .call 109 [.t 32], none⟩, ⟨some 34, .bin .eql (.t 29) (.t 33), none⟩, ⟨some 35, .mov (.t 34), none⟩, ⟨some 36, .mov (.t 0), some (35, true)⟩, ⟨some 37, .mov (.t 1), some (35, true)⟩, ⟨some 38, .mov (.t 6), some (35, true)⟩, ⟨some 39, .bin .mul (.c (.int .i64 2)) (.t 38), some (35, true)⟩, ⟨some 40, .bin .add (.t 37) (.t 39), some (35, true)⟩, ⟨some 41, .call 125 [.t 36, .t 40], some (35, true)⟩, ⟨some 42, .bin .eql (.t 41) (.c (.int .u8 46)), some (35, true)⟩, ⟨some 43, .pick (.t 35) (.t 42) (.c (.bool false)), none⟩, ⟨some 24, .mov (.t 43), none⟩] []) (.kl [0, 25, 26, 27, 28, 29, 30, 31, 32, 33, 34, 35, 36, 37, 38, 39, 40, 41, 42, 43] (.cond (.t 24) (.kl [24] (.seq (.reg [⟨some 44, .mov (.t 1), none⟩, ⟨some 45, .mov (.t 6), none⟩, ⟨some 46, .bin .mul (.c (.int .i64 2)) (.t 45), none⟩, ⟨some 47, .bin .add (.t 44) (.t 46), none⟩, ⟨some 4, .mov (.t 47), none⟩, ⟨some 5, .mov (.c (.bool true)), none⟩]) (.kl [1, 6, 44, 45, 46, 47] (.ret)))) (.skip))))))))))))) (.kl [0, 1, 6, 11, 24] (.seq (.reg [⟨some 4, .mov (.c (.int .i64 0)), none⟩, ⟨some 5, .mov (.c (.bool false)), none⟩]) (.ret))))))), [.tmp 4, .tmp 5]⟩
/-- spec.liFirst -/
def fi100 : FI := ⟨.seq (.reg [⟨some 6, .mov (.c (.str [])), none⟩]) (.kl [6] (.seq (.reg [⟨some 7, .mov (.t 0), none⟩, ⟨some 8, .call 124 [.c (.str [84]), .t 7], none⟩, ⟨some 9, .mov (.t 1), none⟩, ⟨some 10, .call 124 [.c (.str [46]), .t 9], none⟩, ⟨some 11, .bin .add (.t 8) (.t 10), none⟩, ⟨some 12, .mov (.t 2), none⟩, ⟨some 13, .call 124 [.c (.str [70]), .t 12], none⟩, ⟨some 14, .bin .add (.t 11) (.t 13), none⟩, ⟨some 6, .mov (.t 14), none⟩]) (.kl [0, 1, 2, 7, 8, 9, 10, 11, 12, 13, 14] (.ret)))), [.tmp 6]⟩
-- lp250_0 HEAD [0, 5, 6] | exit 0: [6] | exit 2: [0, 6, 7] | exit 4: [0, 6, 7, 22, 23, 24]
-- lp250_1 HEAD [0, 6, 7, 22, 23, 24] | exit 2: [0, 6, 7] | exit 4: [0, 6, 7, 22, 23, 24]
-- lp250_2 HEAD [0, 6, 7, 9, 22, 23, 24, 29, 30, 31] | exit 4: [0, 6, 7, 22, 23, 24]
/-- spec.swReach -/
def lb250_2 : C := .kl [52] (.seq (.reg [⟨some 32, .bin .lss (.t 31) (.t 30), none⟩]) (.seq (.cond (.t 32) (.skip) (.kl [9, 29, 30, 31, 32] (.exit 4))) (.kl [32] (.seq (.blk 5 (.seq (.reg [⟨some 33, .iaddr 2 (.t 29) (.t 31), none⟩, ⟨some 34, .load true 2 (.t 33), none⟩, ⟨some 11, .new [.int .i64 0, .int .i64 0], none⟩, ⟨none, .store 2 (.t 11) (.t 34), none⟩]) (.kl [33, 34] (.seq (.reg [⟨some 35, .mov (.t 9), none⟩, ⟨some 36, .load true 2 (.t 11), none⟩, ⟨some 37, .call 66 [.t 35, .t 36], none⟩, ⟨some 12, .mov (.t 37), none⟩]) (.kl [11, 35, 36, 37] (.seq (.reg [⟨some 38, .mov (.t 0), none⟩, ⟨some 39, .mov (.t 12), none⟩, ⟨some 40, .call 244 [.t 38, .t 39], none⟩, ⟨some 41, .bin .gtr (.t 40) (.c (.int .i64 0)), none⟩, ⟨some 42, .mov (.t 41), none⟩, ⟨some 43, .mov (.t 7), some (42, true)⟩, ⟨some 44, .mov (.t 12), some (42, true)⟩, ⟨some 45, .call 243 [.t 43, .t 44], some (42, true)⟩, ⟨some 46, .un .not (.t 45), some (42, true)⟩, ⟨some 47, .pick (.t 42) (.t 46) (.c (.bool false)), none⟩]) (.kl [38, 39, 40, 41, 42, 43, 44, 45, 46] (.cond (.t 47) (.kl [47] (.reg [⟨some 48, .mov (.t 7), none⟩, ⟨some 49, .mov (.t 12), none⟩, ⟨some 50, .lit 1 1 [.str []] [(0, 1, .t 49)], none⟩, ⟨some 51, .app 1 (.t 48) (.t 50), none⟩, ⟨some 7, .mov (.t 51), none⟩])) (.skip))))))))) (.kl [12, 47, 48, 49, 50, 51] (.reg [⟨some 52, .bin .add (.t 31) (.c (.int .i64 1)), none⟩, ⟨some 31, .mov (.t 52), none⟩]))))))
def lp250_2 : C := lb250_2
def lb250_1 : C := .kl [53] (.seq (.reg [⟨some 25, .bin .lss (.t 24) (.t 23), none⟩]) (.seq (.cond (.t 25) (.skip) (.kl [22, 23, 24, 25] (.exit 2))) (.kl [25] (.seq (.blk 3 (.seq (.reg [⟨some 26, .iaddr 1 (.t 22) (.t 24), none⟩, ⟨some 27, .load false 1 (.t 26), none⟩, ⟨some 9, .mov (.t 27), none⟩]) (.kl [26, 27] (.seq (.reg [⟨some 28, .mov (.t 9), none⟩, ⟨some 29, .call 119 [.t 28, .c (.bool true), .c (.bool true)], none⟩, ⟨some 30, .lenV (.t 29), none⟩, ⟨some 31, .mov (.c (.int .i64 0)), none⟩]) (.kl [28] (.blk 4 (.loop lp250_2))))))) (.reg [⟨some 53, .bin .add (.t 24) (.c (.int .i64 1)), none⟩, ⟨some 24, .mov (.t 53), none⟩])))))
def lp250_1 : C := lb250_1
def lb250_0 : C := .kl [7, 54] (.seq (.seq (.reg [⟨some 15, .mov (.t 5), none⟩, ⟨some 16, .lenV (.t 15), none⟩, ⟨some 17, .bin .gtr (.t 16) (.c (.int .i64 0)), none⟩]) (.kl [15, 16] (.cond (.t 17) (.skip) (.kl [0, 5, 17] (.exit 0))))) (.kl [17] (.blk 1 (.seq (.reg [⟨some 18, .mov (.t 6), none⟩, ⟨some 19, .mov (.t 5), none⟩, ⟨some 20, .lit 1 1 [.nilS] [(0, 1, .t 19)], none⟩, ⟨some 21, .app 1 (.t 18) (.t 20), none⟩, ⟨some 6, .mov (.t 21), none⟩]) (.kl [18, 19, 20, 21] (.seq (.reg [⟨some 7, .mov (.c (.nilS)), none⟩]) (.seq (.seq (.reg [⟨some 22, .mov (.t 5), none⟩, ⟨some 23, .lenV (.t 22), none⟩, ⟨some 24, .mov (.c (.int .i64 0)), none⟩]) (.kl [5] (.blk 2 (.loop lp250_1)))) (.reg [⟨some 54, .mov (.t 7), none⟩, ⟨some 5, .mov (.t 54), none⟩]))))))))
def lp250_0 : C := lb250_0
def fi250 : FI := ⟨.seq (.reg [⟨some 4, .mov (.c (.nilS)), none⟩]) (.kl [4] (.seq (.reg [⟨some 13, .mov (.t 1), none⟩, ⟨some 14, .lit 1 1 [.str []] [(0, 1, .t 13)], none⟩, ⟨some 5, .mov (.t 14), none⟩]) (.kl [1, 13, 14] (.seq (.reg [⟨some 6, .mov (.c (.nilS)), none⟩]) (.seq (.blk 0 (.loop lp250_0)) (.seq (.reg [⟨some 55, .mov (.t 6), none⟩, ⟨some 4, .mov (.t 55), none⟩]) (.kl [6, 55] (.ret)))))))), [.tmp 4]⟩
/-- spec.liLast -/
def fi251 : FI := ⟨.seq (.reg [⟨some 2, .mov (.c (.str [])), none⟩]) (.kl [2] (.seq (.reg [⟨some 3, .mov (.t 0), none⟩, ⟨some 4, .call 116 [.t 3, .c (.int .u8 70)], none⟩, ⟨some 5, .call 124 [.c (.str [70]), .t 4], none⟩, ⟨some 6, .mov (.t 0), none⟩, ⟨some 7, .call 116 [.t 6, .c (.int .u8 46)], none⟩, ⟨some 8, .call 124 [.c (.str [46]), .t 7], none⟩, ⟨some 9, .bin .add (.t 5) (.t 8), none⟩, ⟨some 10, .mov (.t 0), none⟩, ⟨some 11, .call 116 [.t 10, .c (.int .u8 84)], none⟩, ⟨some 12, .call 124 [.c (.str [84]), .t 11], none⟩, ⟨some 13, .bin .add (.t 9) (.t 12), none⟩, ⟨some 2, .mov (.t 13), none⟩]) (.kl [0, 3, 4, 5, 6, 7, 8, 9, 10, 11, 12, 13] (.ret)))), [.tmp 2]⟩
/-- impl.first -/
def fi253 : FI := ⟨.seq (.reg [⟨some 6, .mov (.c (.str [])), none⟩]) (.kl [6] (.seq (.reg [⟨some 7, .mov (.t 0), none⟩, ⟨some 8, .mov (.t 1), none⟩, ⟨some 9, .mov (.t 2), none⟩, ⟨some 10, .call 246 [.c (.int .u8 84), .t 7, .t 8, .c (.int .u8 70), .t 9], none⟩, ⟨some 6, .mov (.t 10), none⟩]) (.kl [0, 1, 2, 7, 8, 9, 10] (.ret)))), [.tmp 6]⟩
-- lp205_0 HEAD [0, 1, 7, 8] | exit 0: [] | ret: [4]
/-- slices.IndexFunc[[]impl.Move,impl.Move] -/
def lb205_0 : C := .kl [18] (.seq (.reg [⟨some 9, .bin .lss (.t 8) (.t 7), none⟩]) (.seq (.cond (.t 9) (.skip) (.kl [0, 1, 7, 8, 9] (.exit 0))) (.kl [9] (.seq (.blk 1 (.seq (.reg [⟨some 10, .mov (.t 8), none⟩, ⟨some 5, .mov (.t 10), none⟩]) (.kl [10] (.seq (.reg [⟨some 11, .mov (.t 1), none⟩, ⟨some 12, .mov (.t 0), none⟩, ⟨some 13, .mov (.t 5), none⟩, ⟨some 14, .iaddr 2 (.t 12) (.t 13), none⟩, ⟨some 15, .load true 2 (.t 14), none⟩, ⟨some 16, .callv (.t 11) [.t 15], none⟩]) (.kl [11, 12, 13, 14, 15] (.cond (.t 16) (.kl [0, 1, 7, 8, 16] (.seq (.reg [⟨some 17, .mov (.t 5), none⟩, ⟨some 4, .mov (.t 17), none⟩]) (.kl [5, 17] (.ret)))) (.skip))))))) (.kl [5, 16] (.reg [⟨some 18, .bin .add (.t 8) (.c (.int .i64 1)), none⟩, ⟨some 8, .mov (.t 18), none⟩]))))))
def lp205_0 : C := lb205_0
def fi205 : FI := ⟨.seq (.reg [⟨some 4, .mov (.c (.int .i64 0)), none⟩]) (.kl [4] (.seq (.seq (.reg [⟨some 6, .mov (.t 0), none⟩, ⟨some 7, .lenV (.t 6), none⟩, ⟨some 8, .mov (.c (.int .i64 0)), none⟩]) (.kl [6] (.blk 0 (.loop lp205_0)))) (.seq (.reg [⟨some 4, .mov (.c (.int .i64 (-1))), none⟩]) (.ret)))), [.tmp 4]⟩
/-- impl.stepOf -/
def fi103 : FI := ⟨.seq (.reg [⟨some 2, .mov (.c (.int .i64 0)), none⟩]) (.kl [2] (.seq (.seq (.reg [⟨some 3, .mov (.t 0), none⟩]) (.kl [0] (.blk 0 (.seq (.reg [⟨some 5, .bin .eql (.t 3) (.c (.int .u8 84)), none⟩, ⟨some 4, .mov (.t 5), none⟩]) (.kl [5] (.cond (.t 4) (.kl [3, 4] (.seq (.reg [⟨some 2, .mov (.c (.int .i64 1)), none⟩]) (.ret))) (.kl [4] (.seq (.reg [⟨some 7, .bin .eql (.t 3) (.c (.int .u8 70)), none⟩, ⟨some 6, .mov (.t 7), none⟩]) (.kl [3, 7] (.cond (.t 6) (.kl [6] (.seq (.reg [⟨some 2, .mov (.c (.int .i64 (-1))), none⟩]) (.ret))) (.skip))))))))))) (.kl [6] (.seq (.reg [⟨some 2, .mov (.c (.int .i64 0)), none⟩]) (.ret))))), [.tmp 2]⟩
/-- impl.at -/
def fi125 : FI := ⟨.seq (.reg [⟨some 4, .mov (.c (.int .u8 0)), none⟩]) (.kl [4] (.seq (.seq (.reg [⟨some 5, .mov (.t 1), none⟩, ⟨some 6, .bin .lss (.t 5) (.c (.int .i64 0)), none⟩, ⟨some 7, .mov (.t 6), none⟩, ⟨some 8, .mov (.t 1), some (7, false)⟩, ⟨some 9, .mov (.t 0), some (7, false)⟩, ⟨some 10, .lenS (.t 9), some (7, false)⟩, ⟨some 11, .bin .geq (.t 8) (.t 10), some (7, false)⟩, ⟨some 12, .pick (.t 7) (.c (.bool true)) (.t 11), none⟩]) (.kl [5, 6, 7, 8, 9, 10, 11] (.cond (.t 12) (.kl [0, 1, 12] (.seq (.reg [⟨some 4, .mov (.c (.int .u8 0)), none⟩]) (.ret))) (.skip)))) (.kl [12] (.seq (.reg [⟨some 13, .mov (.t 0), none⟩, ⟨some 14, .mov (.t 1), none⟩, ⟨some 15, .idxS (.t 13) (.t 14), none⟩, ⟨some 4, .mov (.t 15), none⟩]) (.kl [0, 1, 13, 14, 15] (.ret)))))), [.tmp 4]⟩
/-- impl.other -/
def fi109 : FI := ⟨.seq (.reg [⟨some 2, .mov (.c (.int .u8 0)), none⟩]) (.kl [2] (.seq (.seq (.reg [⟨some 3, .mov (.t 0), none⟩]) (.blk 0 (.seq (.reg [⟨some 5, .bin .eql (.t 3) (.c (.int .u8 84)), none⟩, ⟨some 4, .mov (.t 5), none⟩]) (.kl [5] (.cond (.t 4) (.kl [0, 3, 4] (.seq (.reg [⟨some 2, .mov (.c (.int .u8 70)), none⟩]) (.ret))) (.kl [4] (.seq (.reg [⟨some 7, .bin .eql (.t 3) (.c (.int .u8 70)), none⟩, ⟨some 6, .mov (.t 7), none⟩]) (.kl [3, 7] (.cond (.t 6) (.kl [0, 6] (.seq (.reg [⟨some 2, .mov (.c (.int .u8 84)), none⟩]) (.ret))) (.skip)))))))))) (.kl [6] (.seq (.reg [⟨some 8, .mov (.t 0), none⟩, ⟨some 2, .mov (.t 8), none⟩]) (.kl [0, 8] (.ret)))))), [.tmp 2]⟩
-- lp124_0 HEAD [0, 1, 5] | exit 0: [5]
/-- spec.liTimes -/
def lb124_0 : C := .kl [8, 9] (.seq (.seq (.reg [⟨some 6, .mov (.t 1), none⟩, ⟨some 7, .bin .gtr (.t 6) (.c (.int .i64 0)), none⟩]) (.kl [6] (.cond (.t 7) (.skip) (.kl [0, 1, 7] (.exit 0))))) (.kl [7] (.seq (.blk 1 (.reg [⟨some 10, .mov (.t 5), none⟩, ⟨some 11, .mov (.t 0), none⟩, ⟨some 12, .bin .add (.t 10) (.t 11), none⟩, ⟨some 5, .mov (.t 12), none⟩])) (.kl [10, 11, 12] (.reg [⟨some 8, .mov (.t 1), none⟩, ⟨some 9, .bin .sub (.t 8) (.c (.int .i64 1)), none⟩, ⟨some 1, .mov (.t 9), none⟩])))))
def lp124_0 : C := lb124_0
def fi124 : FI := ⟨.seq (.reg [⟨some 4, .mov (.c (.str [])), none⟩]) (.kl [4] (.seq (.reg [⟨some 5, .mov (.c (.str [])), none⟩]) (.seq (.blk 0 (.loop lp124_0)) (.seq (.reg [⟨some 13, .mov (.t 5), none⟩, ⟨some 4, .mov (.t 13), none⟩]) (.kl [5, 13] (.ret)))))), [.tmp 4]⟩

def tab : List (Nat × FI) := [(52, fi52), (224, fi224), (51, fi51), (49, fi49), (48, fi48), (50, fi50), (47, fi47), (225, fi225), (226, fi226), (227, fi227), (228, fi228), (229, fi229), (94, fi94), (77, fi77), (95, fi95), (93, fi93), (97, fi97), (96, fi96), (122, fi122), (61, fi61), (120, fi120), (98, fi98), (233, fi233), (234, fi234), (235, fi235), (236, fi236), (238, fi238), (237, fi237), (239, fi239), (240, fi240), (58, fi58), (116, fi116), (118, fi118), (117, fi117), (119, fi119), (66, fi66), (121, fi121), (74, fi74), (105, fi105), (104, fi104), (242, fi242), (243, fi243), (244, fi244), (82, fi82), (245, fi245), (189, fi189), (246, fi246), (248, fi248), (247, fi247), (252, fi252), (129, fi129), (130, fi130), (108, fi108), (56, fi56), (127, fi127), (100, fi100), (250, fi250), (251, fi251), (253, fi253), (205, fi205), (103, fi103), (125, fi125), (109, fi109), (124, fi124)]
def T (f : Nat) : Option FI := (tab.find? fun x => x.1 == f).map (·.2)
theorem T52 : T 52 = some fi52 := rfl
theorem T224 : T 224 = some fi224 := rfl
theorem T51 : T 51 = some fi51 := rfl
theorem T49 : T 49 = some fi49 := rfl
theorem T48 : T 48 = some fi48 := rfl
theorem T50 : T 50 = some fi50 := rfl
theorem T47 : T 47 = some fi47 := rfl
theorem T225 : T 225 = some fi225 := rfl
theorem T226 : T 226 = some fi226 := rfl
theorem T227 : T 227 = some fi227 := rfl
theorem T228 : T 228 = some fi228 := rfl
theorem T229 : T 229 = some fi229 := rfl
theorem T94 : T 94 = some fi94 := rfl
theorem T77 : T 77 = some fi77 := rfl
theorem T95 : T 95 = some fi95 := rfl
theorem T93 : T 93 = some fi93 := rfl
theorem T97 : T 97 = some fi97 := rfl
theorem T96 : T 96 = some fi96 := rfl
theorem T122 : T 122 = some fi122 := rfl
theorem T61 : T 61 = some fi61 := rfl
theorem T120 : T 120 = some fi120 := rfl
theorem T98 : T 98 = some fi98 := rfl
theorem T233 : T 233 = some fi233 := rfl
theorem T234 : T 234 = some fi234 := rfl
theorem T235 : T 235 = some fi235 := rfl
theorem T236 : T 236 = some fi236 := rfl
theorem T238 : T 238 = some fi238 := rfl
theorem T237 : T 237 = some fi237 := rfl
theorem T239 : T 239 = some fi239 := rfl
theorem T240 : T 240 = some fi240 := rfl
theorem T58 : T 58 = some fi58 := rfl
theorem T116 : T 116 = some fi116 := rfl
theorem T118 : T 118 = some fi118 := rfl
theorem T117 : T 117 = some fi117 := rfl
theorem T119 : T 119 = some fi119 := rfl
theorem T66 : T 66 = some fi66 := rfl
theorem T121 : T 121 = some fi121 := rfl
theorem T74 : T 74 = some fi74 := rfl
theorem T105 : T 105 = some fi105 := rfl
theorem T104 : T 104 = some fi104 := rfl
theorem T242 : T 242 = some fi242 := rfl
theorem T243 : T 243 = some fi243 := rfl
theorem T244 : T 244 = some fi244 := rfl
theorem T82 : T 82 = some fi82 := rfl
theorem T245 : T 245 = some fi245 := rfl
theorem T189 : T 189 = some fi189 := rfl
theorem T246 : T 246 = some fi246 := rfl
theorem T248 : T 248 = some fi248 := rfl
theorem T247 : T 247 = some fi247 := rfl
theorem T252 : T 252 = some fi252 := rfl
theorem T129 : T 129 = some fi129 := rfl
theorem T130 : T 130 = some fi130 := rfl
theorem T108 : T 108 = some fi108 := rfl
theorem T56 : T 56 = some fi56 := rfl
theorem T127 : T 127 = some fi127 := rfl
theorem T100 : T 100 = some fi100 := rfl
theorem T250 : T 250 = some fi250 := rfl
theorem T251 : T 251 = some fi251 := rfl
theorem T253 : T 253 = some fi253 := rfl
theorem T205 : T 205 = some fi205 := rfl
theorem T103 : T 103 = some fi103 := rfl
theorem T125 : T 125 = some fi125 := rfl
theorem T109 : T 109 = some fi109 := rfl
theorem T124 : T 124 = some fi124 := rfl
end Go.Proofs.YthoibdfcaejgbaaDoor.Ab
-- EXT strings.Repeat
-- EXT strings.Count
-- EXT strings.Contains
-- EXT strings.Trim
-- EXT strings.Index
-- EXT strings.IndexByte

/- RULES for reckoning with the evaluator: fuel is bounded by no one. -/
namespace Go.Proofs.YthoibdfcaejgbaaDoor.Ab
open Go

def CF.le (a b : CF) : Prop := ∀ f xs h r, a f xs h = some r → b f xs h = some r
theorem CF.le_refl (a : CF) : a.le a := fun _ _ _ _ h => h

def AOp.isCall : AOp → Bool
  | .call .. | .callv .. => true
  | _ => false

section
variable {cf cf' : CF} {ρ : Opd → AV} {h : AH} {e : Env}

theorem evOp_mono (hle : cf.le cf') {i : AOp} {x : AV × AH} (hev : evOp cf ρ h i = some x) : evOp cf' ρ h i = some x := by
  cases i <;> first
    | exact hev
    | (simp only [evOp] at hev ⊢; exact hle _ _ _ _ hev)
    | (simp only [evOp] at hev ⊢
       split at hev
       · exact hle _ _ _ _ hev
       · cases hev)
theorem evOp_any {i : AOp} (hi : i.isCall = false) (cf cf' : CF) : evOp cf ρ h i = evOp cf' ρ h i := by
  cases i <;> first
    | rfl
    | (simp [AOp.isCall] at hi; done)

theorem evI_mono (hle : cf.le cf') {i : I} {x : Env × AH} (hev : evI cf i e h = some x) : evI cf' i e h = some x := by
  have key : ∀ x, (evOp cf (env e) h i.op).map (fun (v, h') => (put e i.dst v, h')) = some x → (evOp cf' (env e) h i.op).map (fun (v, h') => (put e i.dst v, h')) = some x := by
    intro x hx
    simp only [Option.map_eq_some_iff] at hx ⊢
    obtain ⟨y, hy, he⟩ := hx
    exact ⟨y, evOp_mono hle hy, he⟩
  unfold evI at hev ⊢
  split at hev
  · exact key _ hev
  · split at hev
    · split at hev
      · rename_i h1; rw [if_pos h1]; exact key _ hev
      · rename_i h1; rw [if_neg h1]; exact hev
    · exact hev
    · cases hev

theorem evR_mono (hle : cf.le cf') : ∀ {is : List I} {e : Env} {h : AH} {x : Env × AH}, evR cf is e h = some x → evR cf' is e h = some x
  | [], _, _, _, hev => hev
  | i :: is, e, h, x, hev => by
    simp only [evR] at hev ⊢
    split at hev
    · rename_i e1 h1 h2
      rw [evI_mono hle h2]
      exact evR_mono hle hev
    · cases hev

theorem state_some : ∀ {is : List I} {e : Env} {h : AH} {x : Env × AH}, evR cf is e h = some x → ∀ i, ∃ s, stateAt cf is i e h = some s
  | [], e, h, x, hev, i => ⟨(e, h), by simp [stateAt, evR]⟩
  | j :: is, e, h, x, hev, i => by
    cases i with
    | zero => exact ⟨(e, h), by simp [stateAt, evR]⟩
    | succ i =>
      simp only [evR] at hev
      split at hev
      · rename_i e1 h1 h2
        obtain ⟨s, hs⟩ := state_some hev i
        refine ⟨s, ?_⟩
        simp only [stateAt, List.take_succ_cons, evR, h2]
        exact hs
      · cases hev

theorem evDraw_mono (hle : cf.le cf') {is : List I} {ps : List (Nat × Nat)} {x : Env × AH} (hev : evDraw cf is ps e h = some x) : evDraw cf' is ps e h = some x := by
  unfold evDraw at hev ⊢
  split at hev
  · rename_i hst
    rw [if_pos]
    · exact evR_mono hle hev
    · intro p hp o e1 h1 e2 h2 e3 h3 k0 k1 k2 k3
      obtain ⟨s1, g1⟩ := state_some hev p.1
      obtain ⟨s2, g2⟩ := state_some hev p.2
      obtain ⟨s3, g3⟩ := state_some hev (p.2 + 1)
      have m1 := evR_mono hle g1
      have m2 := evR_mono hle g2
      have m3 := evR_mono hle g3
      unfold stateAt at k1 k2 k3
      rw [m1] at k1; rw [m2] at k2; rw [m3] at k3
      cases k1; cases k2; cases k3
      exact hst p hp o e1 h1 e2 h2 e3 h3 k0 g1 g2 g3
  · cases hev

theorem evLoop_mono {s s' : Env → AH → Option (X × Env × AH)} (hs : ∀ e h x, s e h = some x → s' e h = some x) : ∀ {n n' : Nat}, n ≤ n' → ∀ {e : Env} {h : AH} {x}, evLoop s n e h = some x → evLoop s' n' e h = some x
  | 0, _, _, _, _, _, hev => by simp [evLoop] at hev
  | n + 1, 0, hn, _, _, _, _ => by omega
  | n + 1, n' + 1, hn, e, h, x, hev => by
    simp only [evLoop] at hev ⊢
    cases hst : s e h with
    | none => rw [hst] at hev; simp at hev
    | some y =>
      rw [hst] at hev
      rw [hs _ _ _ hst]
      obtain ⟨x1, e1, h1⟩ := y
      cases x1 with
      | normal => exact evLoop_mono hs (by omega) hev
      | exit i => exact hev
      | ret => exact hev

theorem evC_mono (hle : cf.le cf') {n n' : Nat} (hn : n ≤ n') : ∀ (c : C) {e : Env} {h : AH} {x}, evC cf n c e h = some x → evC cf' n' c e h = some x := by
  intro c
  induction c with
  | skip => intro e h x hev; exact hev
  | reg is =>
    intro e h x hev
    simp only [evC, Option.map_eq_some_iff] at hev ⊢
    obtain ⟨y, hy, he⟩ := hev
    exact ⟨y, evR_mono hle hy, he⟩
  | drw is ps =>
    intro e h x hev
    simp only [evC, Option.map_eq_some_iff] at hev ⊢
    obtain ⟨y, hy, he⟩ := hev
    exact ⟨y, evDraw_mono hle hy, he⟩
  | kl ts c ih => intro e h x hev; simp only [evC] at hev ⊢; exact ih hev
  | seq a b iha ihb =>
    intro e h x hev
    simp only [evC] at hev ⊢
    cases ha : evC cf n a e h with
    | none => rw [ha] at hev; simp at hev
    | some y =>
      rw [ha] at hev
      rw [iha ha]
      obtain ⟨x1, e1, h1⟩ := y
      cases x1 with
      | normal => exact ihb hev
      | exit i => exact hev
      | ret => exact hev
  | cond y a b iha ihb =>
    intro e h x hev
    simp only [evC] at hev ⊢
    split at hev
    · rename_i t ht
      split at hev
      · rename_i h1; rw [if_pos h1]; exact iha hev
      · rename_i h1; rw [if_neg h1]; exact ihb hev
    · cases hev
  | blk id a ih =>
    intro e h x hev
    simp only [evC] at hev ⊢
    cases ha : evC cf n a e h with
    | none => rw [ha] at hev; simp at hev
    | some y =>
      rw [ha] at hev
      rw [ih ha]
      exact hev
  | loop a ih =>
    intro e h x hev
    simp only [evC] at hev ⊢
    exact evLoop_mono (fun _ _ _ hh => ih hh) hn hev
  | exit i => intro e h x hev; exact hev
  | ret => intro e h x hev; exact hev
  | bad => intro e h x hev; simp [evC] at hev
end

def EMono (E : Ext) : Prop := ∀ f G, E f = some G → ∀ cf cf' : CF, cf.le cf' → ∀ xs h r, G cf xs h = some r → G cf' xs h = some r

theorem evF_mono {T : Nat → Option FI} {E : Ext} (hE : EMono E) : ∀ {n n' : Nat}, n ≤ n' → (evF T E n).le (evF T E n')
  | 0, _, _ => by intro f xs h r hev; simp [evF] at hev
  | n + 1, 0, hn => by omega
  | n + 1, n' + 1, hn => by
    intro f xs h r hev
    have ih := evF_mono (T := T) hE (show n ≤ n' by omega)
    simp only [evF] at hev ⊢
    split at hev
    · rename_i G hG
      exact hE f G hG _ _ ih _ _ _ hev
    · split at hev
      · rename_i fi hfi
        cases hc : evC (evF T E n) n fi.body (Env.init 0 xs) h with
        | none => rw [hc] at hev; cases hev
        | some y => rw [hc] at hev; rw [evC_mono ih (by omega) _ hc]; exact hev
      · cases hev

/-! ### The rules -/
section
variable (T : Nat → Option FI) (E : Ext)

def Spec (f : Nat) (xs : List AV) (h : AH) (post : AV → AH → Prop) : Prop := ∃ n r h', evF T E n f xs h = some (r, h') ∧ post r h'
def WC (c : C) (e : Env) (h : AH) (Q : X → Env → AH → Prop) : Prop := ∃ n x e' h', evC (evF T E n) n c e h = some (x, e', h') ∧ Q x e' h'
def WR (is : List I) (e : Env) (h : AH) (Q : Env → AH → Prop) : Prop := ∃ n e' h', evR (evF T E n) is e h = some (e', h') ∧ Q e' h'
def WO {α : Type} (o : Option (α × AH)) (K : α → AH → Prop) : Prop := match o with
  | some (v, h) => K v h
  | none => False
end
@[simp] theorem WO_some {α : Type} {v : α} {h : AH} {K : α → AH → Prop} : WO (some (v, h)) K ↔ K v h := Iff.rfl
@[simp] theorem WO_none {α : Type} {K : α → AH → Prop} : WO none K ↔ False := Iff.rfl
theorem WO_iff {α : Type} {o : Option (α × AH)} {K : α → AH → Prop} : WO o K ↔ ∃ v h, o = some (v, h) ∧ K v h := by
  cases o with
  | none => simp
  | some x =>
    obtain ⟨v, h⟩ := x
    exact ⟨fun hk => ⟨v, h, rfl, hk⟩, fun ⟨_, _, he, hk⟩ => by cases he; exact hk⟩

section
variable {T : Nat → Option FI} {E : Ext} (hE : EMono E) {e : Env} {h : AH} {Q : Env → AH → Prop} {R : X → Env → AH → Prop}
include hE

omit hE in
theorem WR_nil : WR T E [] e h Q ↔ Q e h := by
  constructor
  · rintro ⟨n, e', h', hev, hq⟩
    simp only [evR, Option.some.injEq, Prod.mk.injEq] at hev
    obtain ⟨rfl, rfl⟩ := hev
    exact hq
  · intro hq; exact ⟨0, e, h, rfl, hq⟩

omit hE in
/-- An operation that calls no one. -/
theorem WR_op {d : Option Nat} {op : AOp} {is : List I} (hi : op.isCall = false) : WR T E (⟨d, op, none⟩ :: is) e h Q ↔ WO (evOp noCall (env e) h op) fun v h' => WR T E is (put e d v) h' Q := by
  rw [WO_iff]
  constructor
  · rintro ⟨n, e', h', hev, hq⟩
    simp only [evR, evI] at hev
    rw [evOp_any hi (evF T E n) noCall] at hev
    cases ho : evOp noCall (env e) h op with
    | none => rw [ho] at hev; simp at hev
    | some y =>
      rw [ho] at hev
      obtain ⟨v, h1⟩ := y
      exact ⟨v, h1, rfl, n, e', h', hev, hq⟩
  · rintro ⟨v, h1, ho, n, e', h', hev, hq⟩
    refine ⟨n, e', h', ?_, hq⟩
    simp only [evR, evI]
    rw [evOp_any hi (evF T E n) noCall, ho]
    exact hev

theorem WR_call {d : Option Nat} {f : Nat} {xs : List Opd} {is : List I} : WR T E (⟨d, .call f xs, none⟩ :: is) e h Q ↔ Spec T E f (xs.map (env e)) h fun v h' => WR T E is (put e d v) h' Q := by
  constructor
  · rintro ⟨n, e', h', hev, hq⟩
    simp only [evR, evI, evOp] at hev
    cases ho : evF T E n f (xs.map (env e)) h with
    | none => rw [ho] at hev; simp at hev
    | some y =>
      rw [ho] at hev
      obtain ⟨v, h1⟩ := y
      exact ⟨n, v, h1, ho, n, e', h', hev, hq⟩
  · rintro ⟨n, v, h1, ho, n', e', h', hev, hq⟩
    refine ⟨max n n', e', h', ?_, hq⟩
    simp only [evR, evI, evOp]
    rw [evF_mono hE (Nat.le_max_left n n') _ _ _ _ ho]
    exact evR_mono (evF_mono hE (Nat.le_max_right n n')) hev

theorem WR_callv {d : Option Nat} {x : Opd} {xs : List Opd} {is : List I} {f : Nat} {cap : List AV} (hx : env e x = .fn f cap) : WR T E (⟨d, .callv x xs, none⟩ :: is) e h Q ↔ Spec T E f (xs.map (env e) ++ cap) h fun v h' => WR T E is (put e d v) h' Q := by
  constructor
  · rintro ⟨n, e', h', hev, hq⟩
    simp only [evR, evI, evOp, hx] at hev
    cases ho : evF T E n f (xs.map (env e) ++ cap) h with
    | none => rw [ho] at hev; simp at hev
    | some y =>
      rw [ho] at hev
      obtain ⟨v, h1⟩ := y
      exact ⟨n, v, h1, ho, n, e', h', hev, hq⟩
  · rintro ⟨n, v, h1, ho, n', e', h', hev, hq⟩
    refine ⟨max n n', e', h', ?_, hq⟩
    simp only [evR, evI, evOp, hx]
    rw [evF_mono hE (Nat.le_max_left n n') _ _ _ _ ho]
    exact evR_mono (evF_mono hE (Nat.le_max_right n n')) hev

omit hE in
/-- A guard that is heard, one that is not. -/
theorem WR_grd {d : Option Nat} {op : AOp} {is : List I} {t : Nat} {want b : Bool} (hb : e.get t = .bool b) : WR T E (⟨d, op, some (t, want)⟩ :: is) e h Q ↔ if b = want then WR T E (⟨d, op, none⟩ :: is) e h Q else WR T E is (put e d (.tup [])) h Q := by
  have key : ∀ n, evR (evF T E n) (⟨d, op, some (t, want)⟩ :: is) e h = if b = want then evR (evF T E n) (⟨d, op, none⟩ :: is) e h else evR (evF T E n) is (put e d (.tup [])) h := by
    intro n
    simp only [evR, evI, hb]
    by_cases hbw : b = want <;> simp [hbw]
  unfold WR
  simp only [key]
  by_cases hbw : b = want <;> simp [hbw]

omit hE in
/-- A guard on what was not done. -/
theorem WR_grd0 {d : Option Nat} {op : AOp} {is : List I} {t : Nat} {want : Bool} (hb : e.get t = .tup []) : WR T E (⟨d, op, some (t, want)⟩ :: is) e h Q ↔ WR T E is (put e d (.tup [])) h Q := by
  have key : ∀ n, evR (evF T E n) (⟨d, op, some (t, want)⟩ :: is) e h = evR (evF T E n) is (put e d (.tup [])) h := by
    intro n
    simp only [evR, evI, hb]
  unfold WR
  simp only [key]

omit hE in
theorem WC_reg {is : List I} : WC T E (.reg is) e h R ↔ WR T E is e h (R .normal) := by
  constructor
  · rintro ⟨n, x, e', h', hev, hq⟩
    simp only [evC, Option.map_eq_some_iff, Prod.mk.injEq] at hev
    obtain ⟨⟨e1, h1⟩, hev, rfl, rfl, rfl⟩ := hev
    exact ⟨n, e1, h1, hev, hq⟩
  · rintro ⟨n, e', h', hev, hq⟩
    exact ⟨n, .normal, e', h', by simp only [evC, hev]; rfl, hq⟩
omit hE in
theorem WC_skip : WC T E .skip e h R ↔ R .normal e h :=
  ⟨by rintro ⟨n, x, e', h', hev, hq⟩; simp only [evC, Option.some.injEq, Prod.mk.injEq] at hev; obtain ⟨rfl, rfl, rfl⟩ := hev; exact hq, fun hq => ⟨0, _, _, _, rfl, hq⟩⟩
omit hE in
theorem WC_ret : WC T E .ret e h R ↔ R .ret e h :=
  ⟨by rintro ⟨n, x, e', h', hev, hq⟩; simp only [evC, Option.some.injEq, Prod.mk.injEq] at hev; obtain ⟨rfl, rfl, rfl⟩ := hev; exact hq, fun hq => ⟨0, _, _, _, rfl, hq⟩⟩
omit hE in
theorem WC_exit {i : Nat} : WC T E (.exit i) e h R ↔ R (.exit i) e h :=
  ⟨by rintro ⟨n, x, e', h', hev, hq⟩; simp only [evC, Option.some.injEq, Prod.mk.injEq] at hev; obtain ⟨rfl, rfl, rfl⟩ := hev; exact hq, fun hq => ⟨0, _, _, _, rfl, hq⟩⟩
omit hE in
theorem WC_kl {ts : List Nat} {c : C} : WC T E (.kl ts c) e h R ↔ WC T E c (e.dels ts) h R := by
  unfold WC; simp only [evC]

/-- Behind a first piece: go on, or out. -/
def then' (K : Env → AH → Prop) (R : X → Env → AH → Prop) : X → Env → AH → Prop
  | .normal, e, h => K e h
  | x, e, h => R x e h
def inBlk (i : Nat) (R : X → Env → AH → Prop) : X → Env → AH → Prop
  | .exit j, e, h => if j = i then R .normal e h else R (.exit j) e h
  | x, e, h => R x e h
omit hE in
@[simp] theorem then_normal {K : Env → AH → Prop} {R : X → Env → AH → Prop} : then' K R .normal e h = K e h := rfl
omit hE in
@[simp] theorem then_exit {K : Env → AH → Prop} {R : X → Env → AH → Prop} {i : Nat} : then' K R (.exit i) e h = R (.exit i) e h := rfl
omit hE in
@[simp] theorem then_ret {K : Env → AH → Prop} {R : X → Env → AH → Prop} : then' K R .ret e h = R .ret e h := rfl
omit hE in
@[simp] theorem inBlk_normal {i : Nat} {R : X → Env → AH → Prop} : inBlk i R .normal e h = R .normal e h := rfl
omit hE in
@[simp] theorem inBlk_ret {i : Nat} {R : X → Env → AH → Prop} : inBlk i R .ret e h = R .ret e h := rfl
omit hE in
@[simp] theorem inBlk_exit {i j : Nat} {R : X → Env → AH → Prop} : inBlk i R (.exit j) e h = if j = i then R .normal e h else R (.exit j) e h := rfl

theorem WC_seq {a b : C} : WC T E (.seq a b) e h R ↔ WC T E a e h (then' (fun e' h' => WC T E b e' h' R) R) := by
  constructor
  · rintro ⟨n, x, e', h', hev, hq⟩
    simp only [evC] at hev
    cases ha : evC (evF T E n) n a e h with
    | none => rw [ha] at hev; simp at hev
    | some y =>
      rw [ha] at hev
      obtain ⟨x1, e1, h1⟩ := y
      refine ⟨n, x1, e1, h1, ha, ?_⟩
      cases x1 with
      | normal => exact ⟨n, x, e', h', hev, hq⟩
      | exit i => cases hev; exact hq
      | ret => cases hev; exact hq
  · rintro ⟨n, x1, e1, h1, ha, hq⟩
    cases x1 with
    | normal =>
      obtain ⟨n', x, e', h', hev, hq⟩ := hq
      refine ⟨max n n', x, e', h', ?_, hq⟩
      simp only [evC]
      rw [evC_mono (evF_mono hE (Nat.le_max_left n n')) (Nat.le_max_left n n') _ ha]
      exact evC_mono (evF_mono hE (Nat.le_max_right n n')) (Nat.le_max_right n n') _ hev
    | exit i => exact ⟨n, _, e1, h1, by simp only [evC, ha], hq⟩
    | ret => exact ⟨n, _, e1, h1, by simp only [evC, ha], hq⟩

omit hE in
theorem WC_cond {x : Opd} {a b : C} {t : Bool} (ht : env e x = .bool t) : WC T E (.cond x a b) e h R ↔ if t then WC T E a e h R else WC T E b e h R := by
  unfold WC
  simp only [evC, ht]
  cases t <;> simp

omit hE in
theorem WC_blk {i : Nat} {c : C} : WC T E (.blk i c) e h R ↔ WC T E c e h (inBlk i R) := by
  constructor
  · rintro ⟨n, x, e', h', hev, hq⟩
    simp only [evC] at hev
    cases ha : evC (evF T E n) n c e h with
    | none => rw [ha] at hev; simp at hev
    | some y =>
      rw [ha] at hev
      obtain ⟨x1, e1, h1⟩ := y
      refine ⟨n, x1, e1, h1, ha, ?_⟩
      cases x1 with
      | normal => cases hev; exact hq
      | exit j =>
        simp only at hev
        simp only [inBlk]
        split at hev
        · rename_i hj; rw [if_pos hj]; cases hev; exact hq
        · rename_i hj; rw [if_neg hj]; cases hev; exact hq
      | ret => cases hev; exact hq
  · rintro ⟨n, x1, e1, h1, ha, hq⟩
    cases x1 with
    | normal => exact ⟨n, _, e1, h1, by simp only [evC, ha], hq⟩
    | exit j =>
      simp only [inBlk] at hq
      by_cases hj : j = i
      · rw [if_pos hj] at hq
        exact ⟨n, _, e1, h1, by simp only [evC, ha, if_pos hj], hq⟩
      · rw [if_neg hj] at hq
        exact ⟨n, _, e1, h1, by simp only [evC, ha, if_neg hj], hq⟩
    | ret => exact ⟨n, _, e1, h1, by simp only [evC, ha], hq⟩

/-- A loop, one round unrolled. -/
theorem WC_loop {c : C} : WC T E (.loop c) e h R ↔ WC T E c e h (then' (fun e' h' => WC T E (.loop c) e' h' R) R) := by
  constructor
  · rintro ⟨n, x, e', h', hev, hq⟩
    simp only [evC] at hev
    cases n with
    | zero => simp [evLoop] at hev
    | succ n =>
      simp only [evLoop] at hev
      cases ha : evC (evF T E (n + 1)) (n + 1) c e h with
      | none => rw [ha] at hev; simp at hev
      | some y =>
        rw [ha] at hev
        obtain ⟨x1, e1, h1⟩ := y
        refine ⟨n + 1, x1, e1, h1, ha, ?_⟩
        cases x1 with
        | normal =>
          refine ⟨n + 1, x, e', h', ?_, hq⟩
          simp only [evC]
          exact evLoop_mono (fun _ _ _ hh => hh) (Nat.le_succ n) hev
        | exit i => cases hev; exact hq
        | ret => cases hev; exact hq
  · rintro ⟨n, x1, e1, h1, ha, hq⟩
    cases x1 with
    | normal =>
      obtain ⟨n', x, e', h', hev, hq⟩ := hq
      simp only [evC] at hev
      refine ⟨max n n' + 1, x, e', h', ?_, hq⟩
      simp only [evC, evLoop]
      rw [evC_mono (evF_mono hE (show n ≤ max n n' + 1 by omega)) (show n ≤ max n n' + 1 by omega) _ ha]
      exact evLoop_mono (fun _ _ _ hh => evC_mono (evF_mono hE (show n' ≤ max n n' + 1 by omega)) (show n' ≤ max n n' + 1 by omega) _ hh) (show n' ≤ max n n' by omega) hev
    | exit i =>
      refine ⟨n + 1, _, e1, h1, ?_, hq⟩
      simp only [evC, evLoop]
      rw [evC_mono (evF_mono hE (Nat.le_succ n)) (Nat.le_succ n) _ ha]
    | ret =>
      refine ⟨n + 1, _, e1, h1, ?_, hq⟩
      simp only [evC, evLoop]
      rw [evC_mono (evF_mono hE (Nat.le_succ n)) (Nat.le_succ n) _ ha]

omit hE in
/-- Into a function of the table. -/
theorem Spec_of {f : Nat} {xs : List AV} {post : AV → AH → Prop} {fi : FI} (hEf : E f = none) (hT : T f = some fi)
    (hw : WC T E fi.body (Env.init 0 xs) h fun x e' h' => (x = .normal ∨ x = .ret) ∧ ∃ r, resV e' h' fi.res = some r ∧ post r h') : Spec T E f xs h post := by
  obtain ⟨n, x, e', h', hev, hx, r, hr, hq⟩ := hw
  refine ⟨n + 1, r, h', ?_, hq⟩
  simp only [evF, hEf, hT, hev]
  rcases hx with rfl | rfl <;> simp [hr]
omit hE in
theorem Spec_ext {f : Nat} {xs : List AV} {post : AV → AH → Prop} {G : CF → List AV → AH → Option (AV × AH)} (hEf : E f = some G) {r : AV} {h' : AH} (n : Nat) (hG : G (evF T E n) xs h = some (r, h')) (hp : post r h') : Spec T E f xs h post :=
  ⟨n + 1, r, h', by simp only [evF, hEf, hG], hp⟩
omit hE in
theorem Spec.mono {f : Nat} {xs : List AV} {post post' : AV → AH → Prop} (hs : Spec T E f xs h post) (hp : ∀ r h', post r h' → post' r h') : Spec T E f xs h post' := by
  obtain ⟨n, r, h', hev, hq⟩ := hs
  exact ⟨n, r, h', hev, hp _ _ hq⟩
omit hE in
theorem WC.mono {c : C} {R' : X → Env → AH → Prop} (hs : WC T E c e h R) (hp : ∀ x e' h', R x e' h' → R' x e' h') : WC T E c e h R' := by
  obtain ⟨n, x, e', h', hev, hq⟩ := hs
  exact ⟨n, x, e', h', hev, hp _ _ _ hq⟩
end
end Go.Proofs.YthoibdfcaejgbaaDoor.Ab

/- CONTRACTS outside the table of bodies: functions of strings, by what they answer. -/
namespace Go.Proofs.YthoibdfcaejgbaaDoor.Ab
open Go

/-- Functions that turn nothing: of strings and numbers, or of what a slice holds. -/
def pureX (G : List AV → AH → Option AV) : CF → List AV → AH → Option (AV × AH) := fun _ xs h => (G xs h).map (·, h)
def low (s : List UInt8) : Bool := s.all fun b => decide (b.toNat < 128)
def xTrim : List AV → Option AV
  | [.str s, .str c] => if s.length ≤ 4294967280 ∧ c.length ≤ 4294967280 ∧ low c = true then some (.str (Go.Lib.trimS s c)) else none
  | _ => none
def xIndexByte : List AV → Option AV
  | [.str s, .int .u8 c] => some (.int .i64 (Go.Lib.indexByte s c.toNat.toUInt8))
  | _ => none
def xIndex : List AV → Option AV
  | [.str s, .str [c]] => some (.int .i64 (Go.Lib.indexByte s c))
  | _ => none
def xContains : List AV → Option AV
  | [.str s, .str [c]] => some (.bool (decide (0 ≤ Go.Lib.indexByte s c)))
  | _ => none
def xCount : List AV → Option AV
  | [.str s, .str [c]] => some (.int .i64 (Go.Lib.countByte s c))
  | _ => none

def strsOf : List AV → Option (List (List UInt8))
  | [] => some []
  | .str s :: l => (strsOf l).map (s :: ·)
  | _ :: _ => none
def xJoin : List AV → AH → Option AV
  | [.slice c k off len e, .str sep], h => if e = 1 then match rdRow h c k off len with
    | some cs => match strsOf cs with
      | some xs => if (Go.Lib.join xs sep).length ≤ 140737488355328 ∧ len ≤ 140737488355328 then some (.str (Go.Lib.join xs sep)) else none
      | none => none
    | none => none
    else none
  | _, _ => none
def xRepeat : List AV → Option AV
  | [.str s, .int .i64 n] => if 0 ≤ n ∧ n ≤ 9223372036854775807 ∧ s.length * n.toNat ≤ 140737488355328 then some (.str (Go.Lib.repeatL s n.toNat)) else none
  | _ => none

/-- What stands ahead of i and from j on, the rest laid to zero (elements of three numbers). -/
def xDelete3 : List AV → AH → Option (AV × AH)
  | [.slice c k off n e, .int .i64 i, .int .i64 j], h => if e = 3 ∧ 0 ≤ i ∧ i < j ∧ j ≤ (n : Int) ∧ n ≤ 1099511627776 then match rdRow h c k (off + j.toNat * 3) ((n - j.toNat) * 3) with
    | some cs => match wrRow h c k (off + i.toNat * 3) cs with
      | some h1 => match wrRow h1 c k (off + (i.toNat + (n - j.toNat)) * 3) (List.replicate ((j.toNat - i.toNat) * 3) (.int .i64 0)) with
        | some h2 => some (.slice c k off (n - (j.toNat - i.toNat)) 3, h2)
        | none => none
      | none => none
    | none => none
    else none
  | _, _ => none

def xtab : List (Nat × (List AV → AH → Option AV)) := [(111, fun xs _ => xTrim xs), (190, fun xs _ => xIndexByte xs), (194, fun xs _ => xIndex xs), (126, fun xs _ => xContains xs), (131, fun xs _ => xCount xs), (123, fun xs _ => xRepeat xs)]
def ytab : List (Nat × (List AV → AH → Option (AV × AH))) := []
def E : Ext := fun f => match xtab.find? fun x => x.1 == f with
  | some x => some (pureX x.2)
  | none => (ytab.find? fun x => x.1 == f).map fun x => fun _ xs h => x.2 xs h
theorem hE : EMono E := by
  intro f G h cf cf' _ xs hh r hr
  unfold E at h
  split at h
  · cases h; exact hr
  · simp only [Option.map_eq_some_iff] at h
    obtain ⟨x, _, rfl⟩ := h
    exact hr
end Go.Proofs.YthoibdfcaejgbaaDoor.Ab

/- THE RELATION between the abstract machine's states and the model's. -/
namespace Go.Proofs.YthoibdfcaejgbaaDoor.Ab
open Go Go.RowKit

structure Place where
  blk : Nat
  base : Nat
  lo : Nat
  ext : Nat
  siz : Nat

structure Emb where
  row : Nat → Nat → Option Place
  obj : Nat → Option Nat

mutual
def RelV (F : Nat → Nat) (m : Emb) : AV → Value → Prop
  | .int k n, v => v = .int k n
  | .bool b, v => v = .bool b
  | .str s, v => v = .string ⟨s.toArray⟩
  | .nilS, v => v = .slice none 0 0
  | .empS, v => ∃ a, v = .slice (some a) 0 0
  | .slice c k off len esz, v => ∃ p o cap, m.row c k = some p ∧ v = .slice (some ⟨p.blk, o, none⟩) len cap ∧ len ≤ cap ∧
      (cap = 0 ∨ (p.lo ≤ off ∧ o = p.base + (off - p.lo) ∧ off + len * esz ≤ p.ext ∧ p.base + (off - p.lo) + cap * esz ≤ p.siz))
  | .nilP, v => v = .pointer none
  | .ptr c k off n, v => ∃ p, m.row c k = some p ∧ v = .pointer (some ⟨p.blk, p.base + (off - p.lo), none⟩) ∧ p.lo ≤ off ∧ off + n ≤ p.ext
  | .nilM, v => v = .map none
  | .map c, v => ∃ b, m.obj c = some b ∧ v = .map (some b)
  | .iter c, v => ∃ b, m.obj c = some b ∧ v = .pointer (some ⟨b, 0, none⟩)
  | .fn f cap, v => ∃ vs, v = .func (.func (F f)) #[] vs ∧ RelL F m cap vs.toList
  | .nilF, v => v = .nilFunc
  | .agg xs, v => ∃ vs, v = .agg vs ∧ RelL F m xs vs.toList
  | .tup xs, v => ∃ vs, v = .tuple vs ∧ RelL F m xs vs.toList
  | .nilI, v => v = .nilIface
  | .ifc, v => ∃ t u, v = .iface t u
  | .undef, _ => True
def RelL (F : Nat → Nat) (m : Emb) : List AV → List Value → Prop
  | [], l => l = []
  | x :: xs, l => ∃ v vs, l = v :: vs ∧ RelV F m x v ∧ RelL F m xs vs
end

def RelE (F : Nat → Nat) (m : Emb) : List (AV × AV) → List MapEntry → Prop
  | [], l => l = []
  | (k, v) :: es, l => ∃ e l', l = e :: l' ∧ RelV F m k e.key ∧ RelV F m v e.val ∧ RelE F m es l'

def Emb.le (m m' : Emb) : Prop := (∀ c k p, m.row c k = some p → m'.row c k = some p) ∧ ∀ c b, m.obj c = some b → m'.obj c = some b
theorem Emb.le_refl (m : Emb) : m.le m := ⟨fun _ _ _ h => h, fun _ _ h => h⟩
theorem Emb.le_trans {m m' m'' : Emb} (h : m.le m') (h' : m'.le m'') : m.le m'' := ⟨fun _ _ _ x => h'.1 _ _ _ (h.1 _ _ _ x), fun _ _ x => h'.2 _ _ (h.2 _ _ x)⟩

mutual
theorem RelV.mono {F : Nat → Nat} {m m' : Emb} (hm : m.le m') : ∀ (x : AV) (v : Value), RelV F m x v → RelV F m' x v
  | .int .., _, h | .bool _, _, h | .str _, _, h | .nilS, _, h | .empS, _, h | .nilP, _, h | .nilM, _, h | .nilF, _, h | .nilI, _, h | .ifc, _, h | .undef, _, h => by simp only [RelV] at h ⊢ <;> exact h
  | .slice .., _, h => by
    simp only [RelV] at h ⊢
    obtain ⟨p, o, cap, h1, h2⟩ := h
    exact ⟨p, o, cap, hm.1 _ _ _ h1, h2⟩
  | .ptr .., _, h => by
    simp only [RelV] at h ⊢
    obtain ⟨p, h1, h2⟩ := h
    exact ⟨p, hm.1 _ _ _ h1, h2⟩
  | .map _, _, h => by
    simp only [RelV] at h ⊢
    obtain ⟨b, h1, h2⟩ := h
    exact ⟨b, hm.2 _ _ h1, h2⟩
  | .iter _, _, h => by
    simp only [RelV] at h ⊢
    obtain ⟨b, h1, h2⟩ := h
    exact ⟨b, hm.2 _ _ h1, h2⟩
  | .fn _ cap, _, h => by
    simp only [RelV] at h ⊢
    obtain ⟨vs, h1, h2⟩ := h
    exact ⟨vs, h1, RelL.mono hm cap _ h2⟩
  | .agg xs, _, h => by
    simp only [RelV] at h ⊢
    obtain ⟨vs, h1, h2⟩ := h
    exact ⟨vs, h1, RelL.mono hm xs _ h2⟩
  | .tup xs, _, h => by
    simp only [RelV] at h ⊢
    obtain ⟨vs, h1, h2⟩ := h
    exact ⟨vs, h1, RelL.mono hm xs _ h2⟩
theorem RelL.mono {F : Nat → Nat} {m m' : Emb} (hm : m.le m') : ∀ (xs : List AV) (l : List Value), RelL F m xs l → RelL F m' xs l
  | [], _, h => by simpa only [RelL] using h
  | x :: xs, _, h => by
    simp only [RelL] at h ⊢
    obtain ⟨v, vs, h1, h2, h3⟩ := h
    exact ⟨v, vs, h1, RelV.mono hm x v h2, RelL.mono hm xs vs h3⟩
end

theorem RelE.mono {F : Nat → Nat} {m m' : Emb} (hm : m.le m') : ∀ (es : List (AV × AV)) (l : List MapEntry), RelE F m es l → RelE F m' es l
  | [], _, h => h
  | (k, v) :: es, l, h => by
    obtain ⟨e, l', h1, h2, h3, h4⟩ := h
    exact ⟨e, l', h1, RelV.mono hm _ _ h2, RelV.mono hm _ _ h3, RelE.mono hm es l' h4⟩

/-! ### Lists -/
theorem RelL.length {F : Nat → Nat} {m : Emb} : ∀ {xs : List AV} {l : List Value}, RelL F m xs l → l.length = xs.length
  | [], _, h => by simp only [RelL] at h; subst h; rfl
  | x :: xs, _, h => by
    simp only [RelL] at h
    obtain ⟨v, vs, rfl, _, h3⟩ := h
    simp [RelL.length h3]
theorem RelL.get {F : Nat → Nat} {m : Emb} : ∀ {xs : List AV} {l : List Value}, RelL F m xs l → ∀ (i : Nat) (x : AV), xs[i]? = some x → ∃ v, l[i]? = some v ∧ RelV F m x v
  | [], _, _, i, x, hx => by simp at hx
  | y :: xs, _, h, i, x, hx => by
    simp only [RelL] at h
    obtain ⟨v, vs, rfl, h2, h3⟩ := h
    cases i with
    | zero => simp at hx; subst hx; exact ⟨v, rfl, h2⟩
    | succ i => simp at hx; simpa using RelL.get h3 i x hx
theorem RelL.of {F : Nat → Nat} {m : Emb} : ∀ {xs : List AV} {l : List Value}, l.length = xs.length → (∀ (i : Nat) (x : AV) (v : Value), xs[i]? = some x → l[i]? = some v → RelV F m x v) → RelL F m xs l
  | [], l, hl, _ => by simp only [RelL]; exact List.eq_nil_of_length_eq_zero (by simpa using hl)
  | x :: xs, [], hl, _ => by simp at hl
  | x :: xs, v :: l, hl, h => by
    simp only [RelL]
    exact ⟨v, l, rfl, h 0 x v rfl rfl, RelL.of (by simpa using hl) fun i y u hy hu => h (i + 1) y u (by simpa using hy) (by simpa using hu)⟩
theorem RelL.append {F : Nat → Nat} {m : Emb} : ∀ {xs ys : List AV} {l l' : List Value}, RelL F m xs l → RelL F m ys l' → RelL F m (xs ++ ys) (l ++ l')
  | [], _, _, _, h, h' => by simp only [RelL] at h; subst h; simpa using h'
  | x :: xs, _, _, _, h, h' => by
    simp only [RelL] at h
    obtain ⟨v, vs, rfl, h2, h3⟩ := h
    simp only [List.cons_append, RelL]
    exact ⟨v, _, rfl, h2, h3.append h'⟩
theorem RelL.take {F : Nat → Nat} {m : Emb} (n : Nat) : ∀ {xs : List AV} {l : List Value}, RelL F m xs l → RelL F m (xs.take n) (l.take n)
  | [], _, h => by simp only [RelL] at h; subst h; simp [RelL]
  | x :: xs, _, h => by
    simp only [RelL] at h
    obtain ⟨v, vs, rfl, h2, h3⟩ := h
    cases n with
    | zero => simp [RelL]
    | succ n => simp only [List.take_succ_cons, RelL]; exact ⟨v, _, rfl, h2, h3.take n⟩
theorem RelL.drop {F : Nat → Nat} {m : Emb} (n : Nat) : ∀ {xs : List AV} {l : List Value}, RelL F m xs l → RelL F m (xs.drop n) (l.drop n)
  | [], _, h => by simp only [RelL] at h; subst h; simp [RelL]
  | x :: xs, _, h => by
    cases n with
    | zero => simpa using h
    | succ n =>
      simp only [RelL] at h
      obtain ⟨v, vs, rfl, h2, h3⟩ := h
      simpa using h3.drop n

/-- The cells of related values are related. -/
theorem RelV.cells {F : Nat → Nat} {m : Emb} {x : AV} {v : Value} (h : RelV F m x v) (hx : ∀ xs, x ≠ .tup xs) (hu : x ≠ .undef) : RelL F m x.cells v.cells.toList := by
  cases x <;> first
    | exact absurd rfl hu
    | exact absurd rfl (hx _)
    | (simp only [RelV] at h; obtain ⟨vs, rfl, h2⟩ := h; exact h2)
    | (have h' := h; simp only [RelV] at h'
       first
         | (subst h'; simp only [AV.cells, Value.cells, RelL]; exact ⟨_, _, rfl, h, rfl⟩)
         | (obtain ⟨a, rfl⟩ := h'; simp only [AV.cells, Value.cells, RelL]; exact ⟨_, _, rfl, h, rfl⟩)
         | (obtain ⟨a, b, rfl⟩ := h'; simp only [AV.cells, Value.cells, RelL]; exact ⟨_, _, rfl, h, rfl⟩)
         | (obtain ⟨a, h1, rfl⟩ := h'; simp only [AV.cells, Value.cells, RelL]; exact ⟨_, _, rfl, h, rfl⟩)
         | (obtain ⟨a, rfl, h1⟩ := h'; simp only [AV.cells, Value.cells, RelL]; exact ⟨_, _, rfl, h, rfl⟩)
         | (obtain ⟨a, h1, rfl, h2⟩ := h'; simp only [AV.cells, Value.cells, RelL]; exact ⟨_, _, rfl, h, rfl⟩)
         | (obtain ⟨a, b, c, h1, rfl, h2⟩ := h'; simp only [AV.cells, Value.cells, RelL]; exact ⟨_, _, rfl, h, rfl⟩))

theorem RelV.one {F : Nat → Nat} {m : Emb} {x : AV} {v : Value} (h : RelV F m x v) (hx : x.sc = true) : v.oneCell' = true := by
  cases x <;> simp only [AV.sc] at hx <;> first
    | (cases hx; done)
    | (simp only [RelV] at h
       first
         | (subst h; rfl)
         | (obtain ⟨a, rfl⟩ := h; rfl)
         | (obtain ⟨a, b, rfl⟩ := h; rfl)
         | (obtain ⟨a, h1, rfl⟩ := h; rfl)
         | (obtain ⟨a, rfl, h1⟩ := h; rfl)
         | (obtain ⟨a, h1, rfl, h2⟩ := h; rfl)
         | (obtain ⟨a, b, c, h1, rfl, h2⟩ := h; rfl))

/-! ### Heaps -/
def ObjRel (F : Nat → Nat) (base : Nat) (m : Emb) (w : World) (c : Nat) : AO → Prop
  | .row cs ver fl ro => ∀ k p, m.row c k = some p → fl ≤ k → k ≤ ver ∧ p.ext ≤ cs.length ∧ (k = ver → p.ext = cs.length) ∧ (ro = false → base ≤ p.blk) ∧
      ∃ C e fr, w.heap[p.blk]? = some (.cells C e fr) ∧ C.size = p.siz ∧ p.base + (p.ext - p.lo) ≤ p.siz ∧ (ro = false → p.siz ≤ fr.1 ∨ fr.2 ≤ fr.1) ∧
        ∀ j, p.lo ≤ j → j < p.ext → ∃ x v, cs[j]? = some x ∧ C[p.base + (j - p.lo)]? = some v ∧ RelV F m x v
  | .map es => ∀ b, m.obj c = some b → base ≤ b ∧ ∃ E clk, w.heap[b]? = some (.map E clk) ∧ RelE F m es E.toList
  | .iter s pos => ∀ b, m.obj c = some b → base ≤ b ∧ w.heap[b]? = some (.stringIter ⟨s.toArray⟩ pos)

def AO.isRow : AO → Bool
  | .row .. => true
  | _ => false

structure RelH (F : Nat → Nat) (base : Nat) (m : Emb) (h : AH) (w : World) : Prop where
  rowc : ∀ c k p, m.row c k = some p → ∃ o, h[c]? = some o ∧ o.isRow = true
  objc : ∀ c b, m.obj c = some b → ∃ o, h[c]? = some o ∧ o.isRow = false
  ob : ∀ c o, h[c]? = some o → ObjRel F base m w c o
  inj : ∀ c k p c' k' p', m.row c k = some p → m.row c' k' = some p' → base ≤ p.blk → p.blk = p'.blk → c = c' ∧ p.base + p'.lo = p'.base + p.lo ∧ p.siz = p'.siz
  injo : ∀ c c' b, m.obj c = some b → m.obj c' = some b → c = c'
  injr : ∀ c k p c' b, m.row c k = some p → m.obj c' = some b → p.blk ≠ b
  ltr : ∀ c k p, m.row c k = some p → p.blk < w.heap.size
  lto : ∀ c b, m.obj c = some b → b < w.heap.size
  vers : ∀ c cs ver fl ro k p, h[c]? = some (.row cs ver fl ro) → m.row c k = some p → k ≤ ver
  le : base ≤ w.heap.size

def Emb.has (m : Emb) (b : Nat) : Prop := (∃ c k p, m.row c k = some p ∧ p.blk = b) ∨ ∃ c, m.obj c = some b
def Emb.placed (m : Emb) (c : Nat) : Prop := (∃ k p, m.row c k = some p) ∨ ∃ b, m.obj c = some b

/-- What a piece of the run does. -/
structure StepR (F : Nat → Nat) (base : Nat) (m : Emb) (h : AH) (w : World) (m' : Emb) (h' : AH) (w' : World) : Prop where
  le : m.le m'
  rel : RelH F base m' h' w'
  os : w'.os = w.os
  tape : w'.tape = w.tape
  out : w'.output = w.output
  size : w.heap.size ≤ w'.heap.size
  frame : ∀ b, b < w.heap.size → (b < base ∨ ¬ m.has b) → w'.heap[b]? = w.heap[b]?
  newr : ∀ c k p, m'.row c k = some p → m.row c k = some p ∨ ((h.length ≤ c ∨ ∃ k0 p0, m.row c k0 = some p0) ∧ (w.heap.size ≤ p.blk ∨ ∃ k0 p0, m.row c k0 = some p0 ∧ p0.blk = p.blk))
  newo : ∀ c b, m'.obj c = some b → m.obj c = some b ∨ (h.length ≤ c ∧ w.heap.size ≤ b)
  unpl : ∀ c, c < h.length → ¬ m.placed c → h'[c]? = h[c]?
  len : h.length ≤ h'.length

theorem StepR.refl {F : Nat → Nat} {base : Nat} {m : Emb} {h : AH} {w : World} (hr : RelH F base m h w) : StepR F base m h w m h w :=
  ⟨Emb.le_refl m, hr, rfl, rfl, rfl, Nat.le_refl _, fun _ _ _ => rfl, fun _ _ _ h => .inl h, fun _ _ h => .inl h, fun _ _ _ => rfl, Nat.le_refl _⟩

theorem StepR.trans {F : Nat → Nat} {base : Nat} {m m' m'' : Emb} {h h' h'' : AH} {w w' w'' : World} (a : StepR F base m h w m' h' w') (b : StepR F base m' h' w' m'' h'' w'') :
    StepR F base m h w m'' h'' w'' where
  le := Emb.le_trans a.le b.le
  rel := b.rel
  os := b.os.trans a.os
  tape := b.tape.trans a.tape
  out := b.out.trans a.out
  size := Nat.le_trans a.size b.size
  frame := by
    intro i hi hb
    rw [b.frame i (Nat.lt_of_lt_of_le hi a.size) ?_, a.frame i hi hb]
    rcases hb with hb | hb
    · exact .inl hb
    · refine .inr fun hh => hb ?_
      rcases hh with ⟨c, k, p, h1, h2⟩ | ⟨c, h1⟩
      · rcases a.newr c k p h1 with h3 | ⟨_, h3 | ⟨k0, p0, h3, h4⟩⟩
        · exact .inl ⟨c, k, p, h3, h2⟩
        · omega
        · exact .inl ⟨c, k0, p0, h3, h4.trans h2⟩
      · rcases a.newo c i h1 with h3 | ⟨_, h3⟩
        · exact .inr ⟨c, h3⟩
        · omega
  newr := by
    intro c k p h1
    rcases b.newr c k p h1 with h2 | ⟨h2, h3⟩
    · exact a.newr c k p h2
    · refine .inr ⟨?_, ?_⟩
      · rcases h2 with h2 | ⟨k0, p0, h2⟩
        · exact .inl (Nat.le_trans a.len h2)
        · rcases a.newr c k0 p0 h2 with h4 | ⟨h4, _⟩
          · exact .inr ⟨k0, p0, h4⟩
          · exact h4
      · rcases h3 with h3 | ⟨k0, p0, h3, h4⟩
        · exact .inl (Nat.le_trans a.size h3)
        · rcases a.newr c k0 p0 h3 with h5 | ⟨_, h5 | ⟨k1, p1, h5, h6⟩⟩
          · exact .inr ⟨k0, p0, h5, h4⟩
          · exact .inl (h4 ▸ h5)
          · exact .inr ⟨k1, p1, h5, h6.trans h4⟩
  newo := by
    intro c i h1
    rcases b.newo c i h1 with h2 | ⟨h2, h3⟩
    · exact a.newo c i h2
    · exact .inr ⟨Nat.le_trans a.len h2, Nat.le_trans a.size h3⟩
  unpl := by
    intro c hc hn
    rw [b.unpl c (Nat.lt_of_lt_of_le hc a.len) ?_, a.unpl c hc hn]
    rintro (⟨k, p, h1⟩ | ⟨i, h1⟩)
    · rcases a.newr c k p h1 with h2 | ⟨h2 | ⟨k0, p0, h2⟩, _⟩
      · exact hn (.inl ⟨k, p, h2⟩)
      · omega
      · exact hn (.inl ⟨k0, p0, h2⟩)
    · rcases a.newo c i h1 with h2 | ⟨h2, _⟩
      · exact hn (.inr ⟨i, h2⟩)
      · omega
  len := Nat.le_trans a.len b.len

theorem StepR.below {F : Nat → Nat} {base : Nat} {m m' : Emb} {h h' : AH} {w w' : World} (a : StepR F base m h w m' h' w') (hb : base ≤ w.heap.size) : Below base w w' :=
  ⟨a.os, a.tape, a.out, a.size, fun i hi => a.frame i (Nat.lt_of_lt_of_le hi hb) (.inl hi)⟩

/-! ### Environments -/
def RelEnv (F : Nat → Nat) (m : Emb) (e : Env) (tmps : Array Value) : Prop := ∀ t, RelV F m (e.get t) (tmps.getD t undef)
theorem RelEnv.mono {F : Nat → Nat} {m m' : Emb} {e : Env} {tmps : Array Value} (hm : m.le m') (h : RelEnv F m e tmps) : RelEnv F m' e tmps := fun t => RelV.mono hm _ _ (h t)
theorem Env.get_set (e : Env) (t u : Nat) (v : AV) : (e.set t v).get u = if t = u then v else e.get u := by
  induction e with
  | nil => simp only [Env.set, Env.get]
  | cons x e ih =>
    obtain ⟨k, y⟩ := x
    simp only [Env.set]
    by_cases h : k = t
    · simp only [if_pos h, Env.get]; subst h; split <;> rfl
    · simp only [if_neg h]
      split
      · simp only [Env.get]
      · simp only [Env.get, ih]
        by_cases h1 : k = u
        · simp only [if_pos h1]; rw [if_neg]; omega
        · simp only [if_neg h1]
theorem Env.get_del (e : Env) (t u : Nat) : (e.del t).get u = if t = u then .undef else e.get u := by
  induction e with
  | nil => simp [Env.del, Env.get]
  | cons x e ih =>
    obtain ⟨k, y⟩ := x
    simp only [Env.del]
    by_cases h : k = t
    · simp only [if_pos h, ih, Env.get]; subst h; split <;> rfl
    · simp only [if_neg h, Env.get, ih]
      by_cases h1 : k = u
      · simp only [if_pos h1]; rw [if_neg]; omega
      · simp only [if_neg h1]
theorem RelEnv.del {F : Nat → Nat} {m : Emb} {e : Env} {tmps : Array Value} (h : RelEnv F m e tmps) (t : Nat) : RelEnv F m (e.del t) tmps := by
  intro u
  rw [Env.get_del]
  split
  · simp only [RelV]
  · exact h u
theorem RelEnv.dels {F : Nat → Nat} {m : Emb} {tmps : Array Value} : ∀ (ts : List Nat) {e : Env}, RelEnv F m e tmps → RelEnv F m (e.dels ts) tmps
  | [], _, h => h
  | t :: ts, _, h => RelEnv.dels ts (h.del t)
theorem getD_set (tmps : Array Value) (t u : Nat) (v : Value) : (tmps.setIfInBounds t v).getD u undef = if t = u ∧ t < tmps.size then v else tmps.getD u undef := by
  simp only [Array.getD_eq_getD_getElem?, Array.getElem?_setIfInBounds]
  by_cases h : t = u
  · subst h
    by_cases h2 : t < tmps.size <;> simp [h2]
  · simp [h]
theorem RelEnv.put {F : Nat → Nat} {m : Emb} {e : Env} {a : Act} (h : RelEnv F m e a.tmps) {r : AV} {v : Value} (hv : RelV F m r v) (d : Option Nat) (hd : ∀ t, d = some t → t < a.tmps.size) :
    RelEnv F m (Ab.put e d r) (a.put d v).tmps := by
  cases d with
  | none => exact h
  | some t =>
    intro u
    simp only [Ab.put, Act.put, Env.get_set]
    rw [getD_set]
    have := hd t rfl
    by_cases h1 : t = u
    · simp only [if_pos h1, if_pos (And.intro h1 this)]; exact hv
    · simp only [if_neg h1, h1, false_and, if_false]; exact h u
theorem init_get : ∀ (xs : List AV) (i t : Nat), (Env.init i xs).get t = if i ≤ t ∧ t < i + xs.length then xs.getD (t - i) .undef else .undef
  | [], i, t => by simp [Env.init, Env.get]
  | x :: xs, i, t => by
    simp only [Env.init, Env.get, init_get xs (i + 1) t, List.length_cons]
    by_cases h : i = t
    · subst h; simp
    · simp only [if_neg h]
      by_cases h1 : i + 1 ≤ t ∧ t < i + 1 + xs.length
      · rw [if_pos h1, if_pos (by omega)]
        obtain ⟨d, rfl⟩ : ∃ d, t = i + 1 + d := ⟨t - (i + 1), by omega⟩
        rw [show i + 1 + d - i = d + 1 by omega, show i + 1 + d - (i + 1) = d by omega]; simp
      · rw [if_neg h1, if_neg (by omega)]

end Go.Proofs.YthoibdfcaejgbaaDoor.Ab

/- THE CHECKER: is a compact literal the model's code? Evaluated by the kernel. -/
namespace Go.Proofs.YthoibdfcaejgbaaDoor.Ab
open Go

def nilSv : Value → Bool
  | .slice none 0 0 => true
  | _ => false
def nilPv : Value → Bool
  | .pointer none => true
  | _ => false
def nilMv : Value → Bool
  | .map none => true
  | _ => false
theorem nilSv_eq {v : Value} (h : nilSv v = true) : v = .slice none 0 0 := by
  unfold nilSv at h; split at h
  · rfl
  · cases h
theorem nilPv_eq {v : Value} (h : nilPv v = true) : v = .pointer none := by
  unfold nilPv at h; split at h
  · rfl
  · cases h
theorem nilMv_eq {v : Value} (h : nilMv v = true) : v = .map none := by
  unfold nilMv at h; split at h
  · rfl
  · cases h

mutual
def chkV (F : Nat → Nat) : AV → Value → Bool
  | .int k n, .int k' n' => decide (k = k') && decide (n = n')
  | .bool b, .bool b' => b == b'
  | .str s, .string t => decide (t.data.toList = s)
  | .nilS, v => nilSv v
  | .nilP, v => nilPv v
  | .nilM, v => nilMv v
  | .nilF, .nilFunc => true
  | .nilI, .nilIface => true
  | .agg xs, .agg vs => chkVs F xs vs.toList
  | .tup xs, .tuple vs => chkVs F xs vs.toList
  | _, _ => false
def chkVs (F : Nat → Nat) : List AV → List Value → Bool
  | [], [] => true
  | x :: xs, v :: vs => chkV F x v && chkVs F xs vs
  | _, _ => false
end

def chkO (F : Nat → Nat) : Operand → Opd → Bool
  | .tmp t, .t n => decide (t = n)
  | .const v, .c x => chkV F x v
  | .func f, .c (.fn g []) => decide (F g = f)
  | _, _ => false
def chkOs (F : Nat → Nat) : List Operand → List Opd → Bool
  | [], [] => true
  | x :: xs, y :: ys => chkO F x y && chkOs F xs ys
  | _, _ => false
def chkOo (F : Nat → Nat) : Option Operand → Option Opd → Bool
  | none, none => true
  | some x, some y => chkO F x y
  | _, _ => false

section
variable (P : Program) (F : Nat → Nat)
def isB (t : TypeId) : Bool := match P.underlying t with | some .bool => true | _ => false
def isI (t : TypeId) (k : IntKind) : Bool := match P.underlying t with | some (.int k') => decide (k' = k) | _ => false
def isS (t : TypeId) : Bool := match P.underlying t with | some .string => true | _ => false
def sz (t : TypeId) (n : Nat) : Bool := match P.info? t with | some i => decide (i.size = n) | none => false
def by64 (t : TypeId) : Bool := match P.info? t with | some i => decide (i.bytes ≤ 64) | none => false
def zer (t : TypeId) (z : List AV) : Bool := match P.info? t with
  | some i => match i.zero with
    | some v => chkVs F z v.cells.toList && z.all AV.sc
    | none => false
  | none => false
def isAg (t : TypeId) (agg : Bool) : Bool := match P.underlying t with
  | some (.struct _) | some (.array _ _) => agg
  | some _ => !agg
  | none => false
/-- a type's value: aggregate or not, so many cells -/
def shp (t : TypeId) (agg : Bool) (n : Nat) : Bool := isAg P t agg && sz P t n && (agg || decide (n = 1))
def hasT (t : TypeId) : Bool := (P.underlying t).isSome
def sliceOf (t : TypeId) (esz : Nat) : Bool := match P.underlying t with | some (.slice e) => sz P e esz | _ => false
def arrOf (t : TypeId) (len esz : Nat) : Bool := match P.underlying t with | some (.array n e) => decide (n = len) && sz P e esz | _ => false
def placesF (fs : Array Field) : List (Nat × Operand) → List (Nat × Nat × Opd) → Bool
  | [], [] => true
  | (i, x) :: ps, (off, n, y) :: qs => (match fs[i]? with | some f => decide (f.offset = off) && sz P f.type n | none => false) && chkO F x y && placesF fs ps qs
  | _, _ => false
def placesA (esz : Nat) : List (Nat × Operand) → List (Nat × Nat × Opd) → Bool
  | [], [] => true
  | (i, x) :: ps, (off, n, y) :: qs => decide (i * esz = off) && decide (n = esz) && chkO F x y && placesA esz ps qs
  | _, _ => false
def szAll (fs : Array Field) : Bool := fs.toList.all fun f => (P.info? f.type).isSome
def nilT (t : TypeId) (kd : Nat) : Operand → Bool
  | .const v => match P.underlying t with
    | some (.slice _) => decide (kd = 0) && nilSv v
    | some (.pointer _) => decide (kd = 1) && nilPv v
    | some (.map _ _) => decide (kd = 2) && nilMv v
    | some (.func _ _ _) => decide (kd = 3) && (match v with | .nilFunc => true | _ => false)
    | some (.interface _) => decide (kd = 4) && (match v with | .nilIface => true | _ => false)
    | _ => false
  | _ => false
def keyD (kd : Nat) : TypeDesc → Bool
  | .int _ => decide (kd = 0)
  | .string => decide (kd = 1)
  | .bool => decide (kd = 2)
  | _ => false
/-- a struct all of whose fields are numbers, bools and strings, each in its cell -/
def flatFs : List Field → Nat → List Nat → Bool
  | [], _, [] => true
  | f :: fs, i, kd :: kds => decide (f.offset = i) && (match P.underlying f.type with | some d => keyD kd d | none => false) && sz P f.type 1 && decide (f.name ≠ "_") && flatFs fs (i + 1) kds
  | _, _, _ => false
def flatAgg (t : TypeId) (kds : List Nat) : Bool := match P.underlying t with
  | some (.struct fs) => flatFs P fs.toList 0 kds && !P.stoodInHeld t && !P.eqGuardType P.depth t
  | _ => false
def keyT (kd : Nat) (t : TypeId) : Bool := match P.underlying t with
  | some (.map k _) => match P.underlying k with
    | some d => keyD kd d
    | none => false
  | _ => false
def fnOk (f : FuncId) : Bool := match P.funcs[f]? with
  | some fn => fn.body.isSome && !(fn.name == "runtime.NumGoroutine")
  | none => false
def seqT (t : TypeId) : Bool := match P.underlying t with | some (.slice _) | some .string => true | _ => false

def zerN (t : TypeId) (n : Nat) : Bool := match P.info? t with
  | some i => match i.zero with
    | some v => decide (v.cells.size = n)
    | none => false
  | none => false
def chkCall (c : Call) : AOp → Bool
  | .call g xs => match c.callee with
    | .value (.func f) => decide (F g = f) && chkOs F c.args.toList xs
    | _ => false
  | .callv x xs => match c.callee with
    | .value y => chkO F y x && chkOs F c.args.toList xs
    | _ => false
  | .lenS x => match c.callee with
    | .builtin .len => match c.argTypes[0]?, c.args.toList with
      | some t, [y] => isS P t && chkO F y x
      | _, _ => false
    | _ => false
  | .lenV x => match c.callee with
    | .builtin .len => match c.argTypes[0]?, c.args.toList with
      | some t, [y] => (match P.underlying t with | some (.slice _) => true | _ => false) && chkO F y x
      | _, _ => false
    | _ => false
  | .mlen x => match c.callee with
    | .builtin .len => match c.argTypes[0]?, c.args.toList with
      | some t, [y] => (match P.underlying t with | some (.map _ _) => true | _ => false) && chkO F y x
      | _, _ => false
    | _ => false
  | .app esz s x => match c.callee with
    | .builtin .append => match c.argTypes[0]?, c.argTypes[1]?, c.args.toList with
      | some t, some t2, [y, z] => (match P.underlying t with | some (.slice e) => sz P e esz && by64 P e && zerN P e esz | _ => false) && seqT P t2 && chkO F y s && chkO F z x
      | _, _, _ => false
    | _ => false
  | .appS s x => match c.callee with
    | .builtin .append => match c.argTypes[0]?, c.argTypes[1]?, c.args.toList with
      | some t, some t2, [y, z] => (match P.underlying t with | some (.slice e) => sz P e 1 && by64 P e && zerN P e 1 | _ => false) && seqT P t2 && chkO F y s && chkO F z x
      | _, _, _ => false
    | _ => false
  | .copy esz s x => match c.callee with
    | .builtin .copy => match c.argTypes[0]?, c.args.toList with
      | some t, [y, z] => sliceOf P t esz && chkO F y s && chkO F z x
      | _, _ => false
    | _ => false
  | .clr z x => match c.callee with
    | .builtin .clear => match c.argTypes[0]?, c.args.toList with
      | some t, [y] => (match P.underlying t with | some (.slice e) => zer P F e z && decide (0 < z.length) | _ => false) && chkO F y x
      | _, _ => false
    | _ => false
  | .mmx mx x y => match c.callee with
    | .builtin b => (match b, mx with | .max, true | .min, false => true | _, _ => false) && chkOs F c.args.toList [x, y]
    | _ => false
  | _ => false

def chkOp : Op → AOp → Bool
  | .move x, .mov y | .assign x, .mov y => chkO F x y
  | .pick a b c, .pick x y z => chkO F a x && chkO F b y && chkO F c z
  | .binOp op _ a b _, .bin op' x y => decide (op = op') && chkO F a x && chkO F b y
  | .binOp op t a b _, .beq neg x y => decide (op = if neg then .neq else .eql) && isB P t && chkO F a x && chkO F b y
  | .binOp op t a b _, .aeq neg n x y => decide (op = if neg then .neq else .eql) && flatAgg P t n && chkO F a x && chkO F b y
  | .binOp op t a b _, .niq neg kd x => decide (op = if neg then .neq else .eql) && nilT P t kd b && chkO F a x
  | .unOp op _ a, .un op' x => decide (op = op') && chkO F a x
  | .convert s d a, .conv k x => hasT P s && isI P d k && chkO F a x
  | .convert s d a, .toB x => hasT P s && (match P.underlying d with | some (.slice e) => isI P e .u8 | _ => false) && chkO F a x
  | .convert s d a, .ofB x => (match P.underlying s with | some (.slice e) => isI P e .u8 | _ => false) && isS P d && chkO F a x
  | .convert s d a, .ofR x => hasT P s && isS P d && chkO F a x
  | .alloc t, .new z => zer P F t z
  | .box _ a, .box x => chkO F a x
  | .build t ps, .build z qs => zer P F t z && (match P.underlying t with
      | some (.struct fs) => szAll P fs && placesF P F fs ps.toList qs
      | some (.array _ e) => (match P.info? e with | some i => placesA F i.size ps.toList qs | none => false)
      | _ => false)
  | .buildSlice t n ps, .lit esz n' z qs => decide (n = n') && (match P.underlying t with
      | some (.slice e) => sz P e esz && decide (0 < esz) && decide (n * esz ≤ 2 ^ 24) && (match P.info? e with
        | some i => (match i.zero with | some v => chkVs F z ((Array.range (n * esz)).map (v.cells[· % v.cells.size]!)).toList && z.all AV.sc && decide (0 < n) | none => false)
        | none => false) && placesA F esz ps.toList qs
      | _ => false)
  | .buildSlice t 0 ps, .lit0 => ps.isEmpty && (match P.underlying t with
      | some (.slice e) => (P.info? e).isSome
      | _ => false)
  | .load t a, .load agg n x => shp P t agg n && chkO F a x
  | .store t a v, .store n x y => sz P t n && chkO F a x && chkO F v y
  | .nilCheck a, .nck x => chkO F a x
  | .fieldAddr t a f, .faddr off n x => (match P.underlying t with
      | some (.struct fs) => (match fs[f]? with | some g => decide (g.offset = off) && sz P g.type n && decide (0 < n) | none => false)
      | _ => false) && chkO F a x
  | .field t a f, .fld agg off n x => (match P.underlying t with
      | some (.struct fs) => (match fs[f]? with | some g => decide (g.offset = off) && shp P g.type agg n | none => false)
      | _ => false) && chkO F a x
  | .indexAddr t a i, .iaddr esz x y => sliceOf P t esz && chkO F a x && chkO F i y
  | .indexAddr t a i, .iaddrA len esz x y => arrOf P t len esz && chkO F a x && chkO F i y
  | .index t a i, .idx agg len esz x y => (match P.underlying t with | some (.array n e) => decide (n = len) && shp P e agg esz | _ => false) && chkO F a x && chkO F i y
  | .index t a i, .idxS x y => isS P t && chkO F a x && chkO F i y
  | .slice t a lo hi none, .sub esz x lo' hi' => sliceOf P t esz && decide (0 < esz) && chkO F a x && chkOo F lo lo' && chkOo F hi hi'
  | .slice t a none (some hi) (some mx), .sub0 x hi' mx' => (match P.underlying t with | some (.slice e) => (P.info? e).isSome | _ => false) && chkO F a x && chkO F hi hi' && chkO F mx mx'
  | .slice t a lo hi none, .subS x lo' hi' => isS P t && chkO F a x && chkOo F lo lo' && chkOo F hi hi'
  | .slice t a lo hi none, .subA len esz x lo' hi' => arrOf P t len esz && decide (0 < esz) && chkO F a x && chkOo F lo lo' && chkOo F hi hi'
  | .makeSlice t a b, .make esz z x y => (match P.underlying t with | some (.slice e) => sz P e esz && by64 P e && zer P F e z && decide (0 < esz) | _ => false) && chkO F a x && chkO F b y
  | .makeMap _ none, .mkmap => true
  | .makeMap t (some (.const (.int _ _))), .mkmap => (match P.underlying t with | some (.map _ _) => true | _ => false)
  | .makeFunc (.func f) first caps, .mkfn g ys => first.isEmpty && decide (F g = f) && chkOs F caps.toList ys
  | .lookup t a k ok, .look kd z ok' x y => decide (ok = ok') && keyT P kd t && (match P.underlying t with
      | some (.map _ e) => (match P.info? e with
        | some i => (match i.zero with | some v => chkV F z v | none => false)
        | none => false)
      | _ => false) && chkO F a x && chkO F k y
  | .mapUpdate t a k v, .mset kd x y z | .insert t a k v, .mset kd x y z => keyT P kd t && chkO F a x && chkO F k y && chkO F v z
  | .range t a, .rng x => isS P t && chkO F a x
  | .next a s, .nxt x => s && chkO F a x
  | .extract a i, .prj j x => decide (i = j) && chkO F a x
  | .call c, ao => chkCall P F c ao
  | _, _ => false

def chkG (ops : Array Oper) (o : Oper) (i : I) : Bool :=
  match o.guard, i.grd with
  | none, none => true
  | some (j, want), some (t, want') => decide (want = want') && decide ((ops[j]?).bind (·.dst) = some t)
  | _, _ => false
def chkD (nt : Nat) (d d' : Option Nat) : Bool := decide (d = d') && (match d with | some t => decide (t < nt) | none => true)
def chkI (nt : Nat) (ops : Array Oper) (o : Oper) (i : I) : Bool := chkD nt o.dst i.dst && chkG ops o i && chkOp P F o.op i.op
def chkIs (nt : Nat) (ops : Array Oper) : List Oper → List I → Bool
  | [], [] => true
  | o :: os, i :: is => chkI P F nt ops o i && chkIs nt ops os is
  | _, _ => false
end

end Go.Proofs.YthoibdfcaejgbaaDoor.Ab

/- MEMORY: what loads, stores, new rows, appends, maps and iterators do to the relation. -/
namespace Go.Proofs.YthoibdfcaejgbaaDoor.Ab
open Go Go.RowKit

theorem splice_length {α : Type} {l : List α} {o : Nat} {vs : List α} (h : o + vs.length ≤ l.length) : (splice l o vs).length = l.length := by
  simp only [splice, List.length_append, List.length_take, List.length_drop]; omega
theorem splice_get {α : Type} {l : List α} {o : Nat} {vs : List α} (h : o + vs.length ≤ l.length) (j : Nat) : (splice l o vs)[j]? = if j < o then l[j]? else if j < o + vs.length then vs[j - o]? else l[j]? := by
  unfold splice
  by_cases h1 : j < o
  · rw [if_pos h1, List.append_assoc, List.getElem?_append_left (by simp only [List.length_take]; omega), List.getElem?_take_of_lt h1]
  · rw [if_neg h1]
    by_cases h2 : j < o + vs.length
    · rw [if_pos h2, List.append_assoc, List.getElem?_append_right (by simp only [List.length_take]; omega), List.getElem?_append_left (by simp only [List.length_take]; omega)]
      congr 1
      simp only [List.length_take]; omega
    · rw [if_neg h2, List.getElem?_append_right (by simp only [List.length_append, List.length_take]; omega), List.getElem?_drop]
      congr 1
      simp only [List.length_append, List.length_take]; omega
theorem splice_cons {α : Type} (l : List α) (o : Nat) (v : α) (vs : List α) (h : o < l.length) : splice (l.set o v) (o + 1) vs = splice l o (v :: vs) := by
  apply List.ext_getElem?
  intro j
  unfold splice
  simp only [List.take_set, List.drop_set, List.length_cons, List.append_assoc]
  rw [if_pos (by omega), List.take_add_one]
  rw [show o + (vs.length + 1) = o + 1 + vs.length by omega]
  have : (List.take o l ++ l[o]?.toList).set o v = List.take o l ++ [v] := by
    rw [List.set_append_right _ _ (by simp only [List.length_take]; omega)]
    simp [List.getElem?_eq_getElem h, Nat.min_eq_left (Nat.le_of_lt h)]
  rw [this]
  simp

/-! ### The world -/
theorem addr_add (b o j : Nat) : (⟨b, o, none⟩ : Addr).add j = ⟨b, o + j, none⟩ := by unfold Addr.add; split <;> simp_all
theorem cell_at {w : World} {b i : Nat} {C : Array Value} {e : TypeId} {fr : Nat × Nat} (hg : w.heap[b]? = some (.cells C e fr)) : w.cell? ⟨b, i, none⟩ = C[i]? := by simp [World.cell?, hg]
def putRow (w : World) (b : Nat) (C : List Value) (e : TypeId) (fr : Nat × Nat) : World := { w with heap := w.heap.setIfInBounds b (.cells C.toArray e fr) }
theorem heap_lt {w : World} {b : Nat} {o : Obj} (h : w.heap[b]? = some o) : b < w.heap.size := (Array.getElem?_eq_some_iff.1 h).1
theorem setCell_put {w : World} {b i : Nat} {C : Array Value} {e : TypeId} {fr : Nat × Nat} {v : Value} (hg : w.heap[b]? = some (.cells C e fr)) : w.setCell ⟨b, i, none⟩ v = putRow w b (C.toList.set i v) e fr := by
  have hlt := heap_lt hg
  unfold World.setCell putRow
  congr 1
  apply Array.ext_getElem?
  intro j
  rw [Array.getElem?_modify, Array.getElem?_setIfInBounds]
  by_cases h : b = j
  · subst h
    rw [if_pos rfl, if_pos rfl, if_pos hlt, hg]
    simp only [Option.map_some, Option.some.injEq, Obj.cells.injEq, and_true, Option.isSome_none, Bool.false_eq_true, if_false]
    apply Array.ext'; simp
  · rw [if_neg h, if_neg h]
theorem putRow_get {w : World} {b : Nat} {C : List Value} {e : TypeId} {fr : Nat × Nat} (h : b < w.heap.size) (j : Nat) : (putRow w b C e fr).heap[j]? = if j = b then some (.cells C.toArray e fr) else w.heap[j]? := by
  unfold putRow
  simp only [Array.getElem?_setIfInBounds]
  by_cases h1 : b = j
  · subst h1; simp [h]
  · rw [if_neg h1, if_neg (Ne.symm h1)]
theorem putRow_put {w : World} {b : Nat} {C C' : List Value} {e : TypeId} {fr : Nat × Nat} : putRow (putRow w b C e fr) b C' e fr = putRow w b C' e fr := by
  unfold putRow
  congr 1
  simp

theorem run_stores {P : Program} (b o : Nat) (e : TypeId) (fr : Nat × Nat) : ∀ (vs : List Value) (i : Nat) (w : World) (C : List Value), w.heap[b]? = some (.cells C.toArray e fr) → o + i + vs.length ≤ C.length →
    (C.length ≤ fr.1 ∨ fr.2 ≤ fr.1) → (∀ v ∈ vs, v.oneCell' = true) → (storeCells ⟨b, o, none⟩ vs i).run P w = .ok () (putRow w b (splice C (o + i) vs) e fr)
  | [], i, w, C, hg, hl, hf, hv => by
    have hlt := heap_lt hg
    simp only [storeCells, Sem.run_pure, splice, List.length_nil, Nat.add_zero, List.append_nil, List.take_append_drop]
    congr 1
    unfold putRow
    have : w.heap.setIfInBounds b (.cells C.toArray e fr) = w.heap := by
      apply Array.ext_getElem?
      intro j
      rw [Array.getElem?_setIfInBounds]
      by_cases h : b = j
      · subst h; rw [if_pos rfl, if_pos hlt, hg]
      · rw [if_neg h]
    rw [this]
  | v :: vs, i, w, C, hg, hl, hf, hv => by
    have hlt := heap_lt hg
    simp only [List.length_cons] at hl
    have hc : w.cell? ⟨b, o + i, none⟩ = some C[o + i] := by rw [cell_at hg]; simp
    have hfz : w.frozen? ⟨b, o + i, none⟩ = false := by simp [World.frozen?, hg]; omega
    simp only [storeCells, Sem.run_bind, addr_add, run_store P w _ v .plain (hv v (by simp)), hc, hfz, Result.andThen, Bool.false_eq_true, if_false]
    rw [setCell_put hg]
    have ih := run_stores (P := P) b o e fr vs (i + 1) (putRow w b (C.set (o + i) v) e fr) (C.set (o + i) v) (by rw [putRow_get hlt, if_pos rfl]) (by simp; omega) (by simpa using hf) (fun u hu => hv u (by simp [hu]))
    simp only [List.toList_toArray] at ih ⊢
    rw [ih, putRow_put, ← Nat.add_assoc, splice_cons _ _ _ _ (by omega)]

/-! ### Loads -/
theorem RelH.row_at {F : Nat → Nat} {base : Nat} {m : Emb} {h : AH} {w : World} (hr : RelH F base m h w) {c k off n : Nat} {cs : List AV} (hrd : rdRow h c k off n = some cs) {p : Place} (hp : m.row c k = some p) (hlo : p.lo ≤ off) (hext : off + n ≤ p.ext) :
    ∃ vs : List Value, RelL F m cs vs ∧ vs.length = n ∧ ∀ j v, vs[j]? = some v → w.cell? ⟨p.blk, p.base + (off - p.lo) + j, none⟩ = some v := by
  unfold rdRow at hrd
  split at hrd
  · rename_i cells ver fl ro hc
    split at hrd
    · rename_i hcond
      obtain ⟨h1, h2, h3⟩ := hcond
      simp only [Option.some.injEq] at hrd
      subst hrd
      obtain ⟨_, _, _, _, C, e, fr, hg, hsz, hbs, _, hcell⟩ := hr.ob c _ hc k p hp h1
      refine ⟨(C.toList.drop (p.base + (off - p.lo))).take n, ?_, ?_, ?_⟩
      · refine RelL.of ?_ ?_
        · simp only [List.length_take, List.length_drop, Array.length_toList]; omega
        · intro i x v hx hv
          have hi : i < n := by
            by_cases hi : i < n
            · exact hi
            · rw [List.getElem?_take_eq_none (by omega)] at hx; cases hx
          rw [List.getElem?_take_of_lt hi, List.getElem?_drop] at hx hv
          obtain ⟨x', v', hx', hv', hxv⟩ := hcell (off + i) (by omega) (by omega)
          rw [hx'] at hx
          rw [Array.getElem?_toList, show p.base + (off - p.lo) + i = p.base + (off + i - p.lo) by omega, hv'] at hv
          cases hx; cases hv; exact hxv
      · simp only [List.length_take, List.length_drop, Array.length_toList]; omega
      · intro j v hv
        have hj : j < n := by
          by_cases hj : j < n
          · exact hj
          · rw [List.getElem?_take_eq_none (by omega)] at hv; cases hv
        rw [List.getElem?_take_of_lt hj, List.getElem?_drop, Array.getElem?_toList] at hv
        rw [cell_at hg, hv]
    · cases hrd
  · cases hrd

theorem RelH.siz {F : Nat → Nat} {base : Nat} {m : Emb} {h : AH} {w : World} (hr : RelH F base m h w) {c k off n : Nat} (hrd : (rdRow h c k off n).isSome = true) {p : Place} (hp : m.row c k = some p) : p.base + (p.ext - p.lo) ≤ p.siz := by
  unfold rdRow at hrd
  split at hrd
  · rename_i cells ver fl ro hc
    split at hrd
    · rename_i hcond
      obtain ⟨_, _, _, _, C, e, fr, hg, hsz, hbs, _⟩ := hr.ob c _ hc k p hp hcond.1
      exact hbs
    · cases hrd
  · cases hrd
theorem RelH.loads {P : Program} {F : Nat → Nat} {base : Nat} {m : Emb} {h : AH} {w : World} (hr : RelH F base m h w) {c k off n : Nat} {cs : List AV} (hrd : rdRow h c k off n = some cs) {p : Place} (hp : m.row c k = some p) (hlo : p.lo ≤ off) (hext : off + n ≤ p.ext) :
    ∃ vs : List Value, RelL F m cs vs ∧ vs.length = n ∧ (loadCells ⟨p.blk, p.base + (off - p.lo), none⟩ n).run P w = .ok vs.toArray w := by
  obtain ⟨vs, h1, h2, h3⟩ := hr.row_at hrd hp hlo hext
  refine ⟨vs, h1, h2, ?_⟩
  have := run_loadCells_list (P := P) w ⟨p.blk, p.base + (off - p.lo), none⟩ vs (fun j v hv => by rw [addr_add]; exact h3 j v hv)
  rwa [h2] at this

/-! ### The same heap, the world but for its draws -/
theorem ObjRel.congr {F : Nat → Nat} {base : Nat} {m : Emb} {w w' : World} {c : Nat} {o : AO} (hw : ∀ b : Nat, w'.heap[b]? = w.heap[b]?) (h : ObjRel F base m w c o) : ObjRel F base m w' c o := by
  cases o <;> simp only [ObjRel] at h ⊢ <;> simp only [hw] <;> exact h
theorem RelH.congr {F : Nat → Nat} {base : Nat} {m : Emb} {h : AH} {w w' : World} (hr : RelH F base m h w) (hw : w'.heap = w.heap) : RelH F base m h w' :=
  ⟨hr.rowc, hr.objc, fun c o ho => ObjRel.congr (fun b => by rw [hw]) (hr.ob c o ho), hr.inj, hr.injo, hr.injr, fun c k p h => by rw [hw]; exact hr.ltr c k p h, fun c b h => by rw [hw]; exact hr.lto c b h, hr.vers, by rw [hw]; exact hr.le⟩
theorem StepR.draw {F : Nat → Nat} {base : Nat} {m : Emb} {h : AH} {w w' : World} (hr : RelH F base m h w) (hh : w'.heap = w.heap) (ho : w'.os = w.os) (ht : w'.tape = w.tape) (hu : w'.output = w.output) : StepR F base m h w m h w' :=
  ⟨Emb.le_refl m, hr.congr hh, ho, ht, hu, by rw [hh]; exact Nat.le_refl _, fun _ _ _ => by rw [hh], fun _ _ _ h => .inl h, fun _ _ h => .inl h, fun _ _ _ => rfl, Nat.le_refl _⟩

/-! ### A new row -/
def Emb.addRow (m : Emb) (c k : Nat) (p : Place) : Emb := { m with row := fun c' k' => if c' = c ∧ k' = k then some p else m.row c' k' }
def Emb.addObj (m : Emb) (c b : Nat) : Emb := { m with obj := fun c' => if c' = c then some b else m.obj c' }
theorem Emb.addRow_at (m : Emb) (c k : Nat) (p : Place) : (m.addRow c k p).row c k = some p := by simp [Emb.addRow]
theorem Emb.addRow_inv {m : Emb} {c k c' k' : Nat} {p p' : Place} (h : (m.addRow c k p).row c' k' = some p') : (c' = c ∧ k' = k ∧ p' = p) ∨ m.row c' k' = some p' := by
  simp only [Emb.addRow] at h
  split at h
  · rename_i hh; cases h; exact .inl ⟨hh.1, hh.2, rfl⟩
  · exact .inr h
theorem Emb.addObj_inv {m : Emb} {c b c' b' : Nat} (h : (m.addObj c b).obj c' = some b') : (c' = c ∧ b' = b) ∨ m.obj c' = some b' := by
  simp only [Emb.addObj] at h
  split at h
  · rename_i hh; cases h; exact .inl ⟨hh, rfl⟩
  · exact .inr h
theorem Emb.le_addRow {m : Emb} {c k : Nat} {p : Place} (h : m.row c k = none) : m.le (m.addRow c k p) :=
  ⟨fun c' k' p' h' => by
    simp only [Emb.addRow]
    split
    · rename_i hh; obtain ⟨rfl, rfl⟩ := hh; rw [h] at h'; cases h'
    · exact h', fun _ _ h => h⟩
theorem Emb.le_addObj {m : Emb} {c b : Nat} (h : m.obj c = none) : m.le (m.addObj c b) :=
  ⟨fun _ _ _ h => h, fun c' b' h' => by
    simp only [Emb.addObj]
    split
    · rename_i hh; subst hh; rw [h] at h'; cases h'
    · exact h'⟩

/-- An object that lies as it lay, in a greater embedding that has nothing new of it. -/
theorem ObjRel.keep {F : Nat → Nat} {base : Nat} {m m' : Emb} {w w' : World} {c : Nat} {o : AO} (h : ObjRel F base m w c o) (hm : m.le m') (hrow : ∀ k p, m'.row c k = some p → m.row c k = some p) (hobj : ∀ b, m'.obj c = some b → m.obj c = some b)
    (hwr : ∀ k p, m.row c k = some p → w'.heap[p.blk]? = w.heap[p.blk]?) (hwo : ∀ b, m.obj c = some b → w'.heap[b]? = w.heap[b]?) : ObjRel F base m' w' c o := by
  cases o with
  | row cs ver fl ro =>
    intro k p hp hk
    obtain ⟨h1, h2, h3, h4, C, e, fr, hg, hs, hb, hf, hc⟩ := h k p (hrow k p hp) hk
    refine ⟨h1, h2, h3, h4, C, e, fr, by rw [hwr k p (hrow k p hp), hg], hs, hb, hf, fun j hj1 hj2 => ?_⟩
    obtain ⟨x, v, hx, hv, hxv⟩ := hc j hj1 hj2
    exact ⟨x, v, hx, hv, RelV.mono hm _ _ hxv⟩
  | map es =>
    intro b hb
    obtain ⟨h1, E, clk, hg, hE⟩ := h b (hobj b hb)
    exact ⟨h1, E, clk, by rw [hwo b (hobj b hb), hg], RelE.mono hm _ _ hE⟩
  | iter s pos =>
    intro b hb
    obtain ⟨h1, hg⟩ := h b (hobj b hb)
    exact ⟨h1, by rw [hwo b (hobj b hb), hg]⟩

theorem newRow_step {F : Nat → Nat} {base : Nat} {m : Emb} {h : AH} {w w' : World} (hr : RelH F base m h w) {cs : List AV} {c : Nat} {h' : AH} (hn : newRow h cs = some (c, h')) {vs rest : List Value} (hvs : RelL F m cs vs) {t : TypeId} {fr : Nat × Nat}
    (hfr : vs.length + rest.length ≤ fr.1 ∨ fr.2 ≤ fr.1) (hh : w'.heap = w.heap.push (.cells (vs ++ rest).toArray t fr)) (ho : w'.os = w.os) (ht : w'.tape = w.tape) (hu : w'.output = w.output) :
    c = h.length ∧ StepR F base m h w (m.addRow h.length 0 ⟨w.heap.size, 0, 0, cs.length, vs.length + rest.length⟩) h' w' := by
  unfold newRow at hn
  split at hn
  · rename_i hsc
    simp only [Option.some.injEq, Prod.mk.injEq] at hn
    obtain ⟨rfl, rfl⟩ := hn
    refine ⟨rfl, ?_⟩
    have hnone : ∀ k, m.row h.length k = none := by
      intro k
      cases hk : m.row h.length k with
      | none => rfl
      | some p => obtain ⟨o, ho, _⟩ := hr.rowc _ _ _ hk; simp at ho
    have hnone2 : m.obj h.length = none := by
      cases hk : m.obj h.length with
      | none => rfl
      | some p => obtain ⟨o, ho, _⟩ := hr.objc _ _ hk; simp at ho
    have hm : m.le (m.addRow h.length 0 ⟨w.heap.size, 0, 0, cs.length, vs.length + rest.length⟩) := Emb.le_addRow (hnone 0)
    have hold : ∀ b, b < w.heap.size → w'.heap[b]? = w.heap[b]? := by
      intro b hb
      rw [hh, Array.getElem?_push, if_neg (by omega)]
    have hlen := hvs.length
    refine ⟨hm, ?_, ho, ht, hu, by rw [hh]; simp, fun b hb _ => hold b hb, ?_, fun c b h => .inl h, ?_, by simp⟩
    · refine ⟨?_, ?_, ?_, ?_, hr.injo, ?_, ?_, ?_, ?_, by rw [hh]; have := hr.le; simp; omega⟩
      · intro c k p hp
        rcases Emb.addRow_inv hp with ⟨rfl, _, _⟩ | hp
        · exact ⟨.row cs 0 0 false, by simp, rfl⟩
        · obtain ⟨o, ho, hi⟩ := hr.rowc c k p hp
          exact ⟨o, by rw [List.getElem?_append_left (by have := List.getElem?_eq_some_iff.1 ho; exact this.1)]; exact ho, hi⟩
      · intro c b hb
        obtain ⟨o, ho, hi⟩ := hr.objc c b hb
        exact ⟨o, by rw [List.getElem?_append_left (by have := List.getElem?_eq_some_iff.1 ho; exact this.1)]; exact ho, hi⟩
      · intro c o hc
        by_cases hlt : c < h.length
        · rw [List.getElem?_append_left hlt] at hc
          refine ObjRel.keep (hr.ob c o hc) hm ?_ (fun b hb => hb) (fun k p hp => hold _ (hr.ltr c k p hp)) (fun b hb => hold _ (hr.lto c b hb))
          intro k p hp
          rcases Emb.addRow_inv hp with ⟨rfl, _, _⟩ | hp
          · omega
          · exact hp
        · rw [List.getElem?_append_right (by omega)] at hc
          have hce : c = h.length := by
            by_cases he : c = h.length
            · exact he
            · rw [List.getElem?_eq_none (by simp; omega)] at hc; cases hc
          subst hce
          simp only [Nat.sub_self, List.getElem?_cons_zero, Option.some.injEq] at hc
          subst hc
          intro k p hp _
          rcases Emb.addRow_inv hp with ⟨_, rfl, rfl⟩ | hp
          · refine ⟨Nat.le_refl _, Nat.le_refl _, fun _ => rfl, fun _ => hr.le, (vs ++ rest).toArray, t, fr, by rw [hh]; simp, by simp, by simp; omega, fun _ => hfr, ?_⟩
            intro j _ hj
            obtain ⟨x, hx⟩ : ∃ x, cs[j]? = some x := ⟨cs[j], by simp [hj]⟩
            obtain ⟨v, hv, hxv⟩ := hvs.get j x hx
            refine ⟨x, v, hx, ?_, RelV.mono hm _ _ hxv⟩
            simp only [Nat.zero_add, Nat.sub_zero, List.getElem?_toArray]
            rw [List.getElem?_append_left (by simp only at hj; omega)]; exact hv
          · rw [hnone k] at hp; cases hp
      · intro c k p c' k' p' hp hp' hb he
        rcases Emb.addRow_inv hp with ⟨rfl, rfl, rfl⟩ | hp <;> rcases Emb.addRow_inv hp' with ⟨rfl, rfl, rfl⟩ | hp'
        · exact ⟨rfl, rfl, rfl⟩
        · have := hr.ltr _ _ _ hp'; simp only at he; omega
        · have := hr.ltr _ _ _ hp; simp only at he; omega
        · exact hr.inj c k p c' k' p' hp hp' hb he
      · intro c k p c' b hp hb
        rcases Emb.addRow_inv hp with ⟨rfl, rfl, rfl⟩ | hp
        · have := hr.lto c' b hb; simp only; omega
        · exact hr.injr c k p c' b hp hb
      · intro c k p hp
        rw [hh]
        rcases Emb.addRow_inv hp with ⟨rfl, rfl, rfl⟩ | hp
        · simp
        · have := hr.ltr c k p hp; simp; omega
      · intro c b hb
        rw [hh]; have := hr.lto c b hb; simp; omega
      · intro c cs' ver fl ro k p hc hp
        rcases Emb.addRow_inv hp with ⟨_, rfl, _⟩ | hp
        · omega
        · obtain ⟨o, ho, _⟩ := hr.rowc c k p hp
          have hlt := (List.getElem?_eq_some_iff.1 ho).1
          rw [List.getElem?_append_left hlt] at hc
          exact hr.vers c cs' ver fl ro k p hc hp
    · intro c k p hp
      rcases Emb.addRow_inv hp with ⟨rfl, rfl, rfl⟩ | hp
      · exact .inr ⟨.inl (Nat.le_refl _), .inl (Nat.le_refl _)⟩
      · exact .inl hp
    · intro c hc _
      rw [List.getElem?_append_left hc]
  · cases hn

end Go.Proofs.YthoibdfcaejgbaaDoor.Ab

/- MEMORY, second part: writes, appends, maps and iterators. -/
namespace Go.Proofs.YthoibdfcaejgbaaDoor.Ab
open Go Go.RowKit

theorem set_get {α : Type} {l : List α} {i : Nat} {v : α} (h : i < l.length) (j : Nat) : (l.set i v)[j]? = if j = i then some v else l[j]? := by
  rw [List.getElem?_set]
  by_cases h1 : i = j
  · subst h1; simp [h]
  · rw [if_neg h1, if_neg (Ne.symm h1)]

/-- One block is written, of one class; all else lies as it lay. -/
structure OneW (w w' : World) (b : Nat) : Prop where
  os : w'.os = w.os
  tape : w'.tape = w.tape
  out : w'.output = w.output
  size : w'.heap.size = w.heap.size
  other : ∀ j, j ≠ b → w'.heap[j]? = w.heap[j]?

theorem OneW.put {w : World} {b : Nat} {C : List Value} {e : TypeId} {fr : Nat × Nat} (h : b < w.heap.size) : OneW w (putRow w b C e fr) b :=
  ⟨rfl, rfl, rfl, by simp [putRow], fun j hj => by rw [putRow_get h, if_neg hj]⟩

/-- A class's object is replaced; the embedding gets at most one version more of it. -/
theorem set_step {F : Nat → Nat} {base : Nat} {m m' : Emb} {h : AH} {w w' : World} (hr : RelH F base m h w) {c b : Nat} {o o' : AO} (hc : h[c]? = some o) (hk : o'.isRow = o.isRow) (hm : m.le m')
    (hmr : ∀ c' k p, m'.row c' k = some p → m.row c' k = some p ∨ (c' = c ∧ ∃ k0 p0, m.row c k0 = some p0 ∧ p0.blk = p.blk ∧ p0.base + p.lo = p.base + p0.lo ∧ p0.siz = p.siz))
    (hmo : m'.obj = m.obj) (hone : OneW w w' b) (hbase : base ≤ b) (hbc : ∀ c' k p, m.row c' k = some p → p.blk = b → c' = c) (hbo : ∀ c', m.obj c' = some b → c' = c) (hhas : m.has b)
    (hob : ObjRel F base m' w' c o') (hv : ∀ cs ver fl ro k p, o' = .row cs ver fl ro → m'.row c k = some p → k ≤ ver) : StepR F base m h w m' (h.set c o') w' := by
  have hlt := (List.getElem?_eq_some_iff.1 hc).1
  have hget : ∀ j, (h.set c o')[j]? = if j = c then some o' else h[j]? := set_get hlt
  have old : ∀ c' k p, m'.row c' k = some p → ∃ k0 p0, m.row c' k0 = some p0 ∧ p0.blk = p.blk ∧ p0.base + p.lo = p.base + p0.lo ∧ p0.siz = p.siz := by
    intro c' k p hp
    rcases hmr c' k p hp with hp | ⟨rfl, k0, p0, h1⟩
    · exact ⟨k, p, hp, rfl, rfl, rfl⟩
    · exact ⟨k0, p0, h1⟩
  refine ⟨hm, ?_, hone.os, hone.tape, hone.out, by rw [hone.size]; exact Nat.le_refl _, ?_, ?_, ?_, ?_, by simp⟩
  · refine ⟨?_, ?_, ?_, ?_, ?_, ?_, ?_, ?_, ?_, by rw [hone.size]; exact hr.le⟩
    · intro c' k p hp
      obtain ⟨k0, p0, h1, _⟩ := old c' k p hp
      obtain ⟨u, hu, hi⟩ := hr.rowc c' k0 p0 h1
      rw [hget]
      by_cases he : c' = c
      · subst he
        rw [hc] at hu; cases hu
        exact ⟨o', if_pos rfl, hk.trans hi⟩
      · exact ⟨u, by rw [if_neg he]; exact hu, hi⟩
    · intro c' i hi
      rw [hmo] at hi
      obtain ⟨u, hu, hi⟩ := hr.objc c' i hi
      rw [hget]
      by_cases he : c' = c
      · subst he
        rw [hc] at hu; cases hu
        exact ⟨o', if_pos rfl, hk.trans hi⟩
      · exact ⟨u, by rw [if_neg he]; exact hu, hi⟩
    · intro c' u hu
      rw [hget] at hu
      by_cases he : c' = c
      · subst he; rw [if_pos rfl] at hu; cases hu; exact hob
      · rw [if_neg he] at hu
        refine ObjRel.keep (hr.ob c' u hu) hm ?_ (fun i hi => by rw [hmo] at hi; exact hi) ?_ ?_
        · intro k p hp
          rcases hmr c' k p hp with hp | ⟨h1, _⟩
          · exact hp
          · exact absurd h1 he
        · intro k p hp
          exact hone.other _ fun hb => he (hbc c' k p hp hb)
        · intro i hi
          exact hone.other _ fun hb => he (hbo c' (hb ▸ hi))
    · intro c1 k1 p1 c2 k2 p2 hp1 hp2 hb hbe
      obtain ⟨k3, p3, h3, e3, f3, g3⟩ := old c1 k1 p1 hp1
      obtain ⟨k4, p4, h4, e4, f4, g4⟩ := old c2 k2 p2 hp2
      obtain ⟨r1, r2, r3⟩ := hr.inj c1 k3 p3 c2 k4 p4 h3 h4 (by omega) (by omega)
      exact ⟨r1, by omega, by omega⟩
    · rw [hmo]; exact hr.injo
    · intro c1 k1 p1 c2 i hp1 hi
      rw [hmo] at hi
      obtain ⟨k3, p3, h3, e3, _⟩ := old c1 k1 p1 hp1
      rw [← e3]; exact hr.injr c1 k3 p3 c2 i h3 hi
    · intro c1 k1 p1 hp1
      obtain ⟨k3, p3, h3, e3, _⟩ := old c1 k1 p1 hp1
      rw [hone.size, ← e3]; exact hr.ltr c1 k3 p3 h3
    · rw [hmo, hone.size]; exact hr.lto
    · intro c1 cs ver fl ro k p hu hp
      rw [hget] at hu
      by_cases he : c1 = c
      · subst he; rw [if_pos rfl] at hu; cases hu; exact hv _ _ _ _ _ _ rfl hp
      · rw [if_neg he] at hu
        rcases hmr c1 k p hp with hp | ⟨h1, _⟩
        · exact hr.vers c1 cs ver fl ro k p hu hp
        · exact absurd h1 he
  · intro i hi hb
    refine hone.other i fun he => ?_
    rcases hb with hb | hb
    · omega
    · exact hb (he ▸ hhas)
  · intro c1 k1 p1 hp1
    rcases hmr c1 k1 p1 hp1 with hp | ⟨rfl, k0, p0, h1, h2, _⟩
    · exact .inl hp
    · exact .inr ⟨.inr ⟨k0, p0, h1⟩, .inr ⟨k0, p0, h1, h2⟩⟩
  · intro c1 i hi; rw [hmo] at hi; exact .inl hi
  · intro c1 hc1 hnp
    rw [hget, if_neg]
    rintro rfl
    rcases hhas with ⟨c2, k, p, hp, hb⟩ | ⟨c2, hb⟩
    · have := hbc c2 k p hp hb; subst this; exact hnp (.inl ⟨k, p, hp⟩)
    · have := hbo c2 hb; subst this; exact hnp (.inr ⟨b, hb⟩)

theorem RelH.one_row {F : Nat → Nat} {base : Nat} {m : Emb} {h : AH} {w : World} (hr : RelH F base m h w) {c k : Nat} {p : Place} (hp : m.row c k = some p) (hb : base ≤ p.blk) : (∀ c' k' p', m.row c' k' = some p' → p'.blk = p.blk → c' = c) ∧ (∀ c', m.obj c' = some p.blk → c' = c) :=
  ⟨fun c' k' p' hp' he => ((hr.inj c k p c' k' p' hp hp' hb he.symm).1).symm, fun c' ho => absurd rfl (hr.injr c k p c' p.blk hp ho)⟩

/-- Cells are written. -/
theorem wr_step {P : Program} {F : Nat → Nat} {base : Nat} {m : Emb} {h : AH} {w : World} (hr : RelH F base m h w) {c k off : Nat} {xs : List AV} {h' : AH} (hw : wrRow h c k off xs = some h') {p : Place} (hp : m.row c k = some p) (hlo : p.lo ≤ off) (hext : off + xs.length ≤ p.ext) {vs : List Value} (hvs : RelL F m xs vs) :
    ∃ w', (storeCells ⟨p.blk, p.base + (off - p.lo), none⟩ vs).run P w = .ok () w' ∧ StepR F base m h w m h' w' := by
  unfold wrRow at hw
  split at hw
  · rename_i cs ver fl hc
    split at hw
    · rename_i hcond
      obtain ⟨rfl, hfl, hl, hsc⟩ := hcond
      simp only [Option.some.injEq] at hw
      subst hw
      obtain ⟨_, h2, h3, h4, C, e, fr, hg, hs, hb, hf, hcell⟩ := hr.ob c _ hc k p hp hfl
      have hlen := hvs.length
      have hbase := h4 rfl
      have hone : ∀ v ∈ vs, v.oneCell' = true := by
        intro v hv
        obtain ⟨i, hi⟩ := List.mem_iff_getElem?.1 hv
        have hlt := (List.getElem?_eq_some_iff.1 hi).1
        obtain ⟨v', hv', hx⟩ := hvs.get i xs[i] (by simp)
        rw [hi] at hv'; cases hv'
        exact hx.one (List.all_eq_true.1 hsc _ (by simp))
      have hrun := run_stores (P := P) p.blk (p.base + (off - p.lo)) e fr vs 0 w C.toList (by simpa using hg) (by simp; omega) (by simp only [Array.length_toList, hs]; exact hf rfl) hone
      refine ⟨_, hrun, ?_⟩
      obtain ⟨o1, o2⟩ := hr.one_row hp hbase
      refine set_step hr hc rfl (Emb.le_refl m) (fun _ _ _ h => .inl h) rfl (OneW.put (heap_lt hg)) hbase o1 o2 (.inl ⟨c, k, p, hp, rfl⟩) ?_ ?_
      · intro k' p' hp' hk'
        have := hr.vers c _ _ _ _ k' p' hc hp'
        obtain rfl : k' = k := by omega
        rw [hp] at hp'; cases hp'
        refine ⟨Nat.le_refl _, ?_, fun _ => ?_, fun _ => hbase, (splice C.toList (p.base + (off - p.lo) + 0) vs).toArray, e, fr, by rw [putRow_get (heap_lt hg), if_pos rfl], ?_, hb, fun _ => hf rfl, ?_⟩
        · rw [splice_length hl]; exact h2
        · rw [splice_length hl]; exact h3 rfl
        · rw [← hs]; simp only [List.size_toArray]; rw [splice_length (by simp; omega)]; simp
        · intro j hj1 hj2
          obtain ⟨x, v, hx, hv, hxv⟩ := hcell j hj1 hj2
          rw [splice_get hl, List.getElem?_toArray, splice_get (by simp; omega)]
          by_cases g1 : j < off
          · exact ⟨x, v, by rw [if_pos g1]; exact hx, by rw [if_pos (by omega)]; simpa using hv, hxv⟩
          · by_cases g2 : j < off + xs.length
            · obtain ⟨y, hy⟩ : ∃ y, xs[j - off]? = some y := ⟨xs[j - off], by simp⟩
              obtain ⟨u, hu, hyu⟩ := hvs.get _ y hy
              refine ⟨y, u, by rw [if_neg g1, if_pos g2]; exact hy, ?_, hyu⟩
              rw [if_neg (by omega), if_pos (by omega)]
              rw [show p.base + (j - p.lo) - (p.base + (off - p.lo) + 0) = j - off by omega]; exact hu
            · exact ⟨x, v, by rw [if_neg g1, if_neg g2]; exact hx, by rw [if_neg (by omega), if_neg (by omega)]; simpa using hv, hxv⟩
      · intro cs' ver' fl' ro' k' p' he hp'
        cases he
        exact hr.vers c _ _ _ _ k' p' hc hp'
    · cases hw
  · cases hw

end Go.Proofs.YthoibdfcaejgbaaDoor.Ab

/- MEMORY, third part: append; new maps and iterators, and their turns. -/
namespace Go.Proofs.YthoibdfcaejgbaaDoor.Ab
open Go Go.RowKit

/-- A class gets a new home, in a new block. -/
theorem grow_step {F : Nat → Nat} {base : Nat} {m : Emb} {h : AH} {w w' : World} (hr : RelH F base m h w) {c ver fl off : Nat} {cs xs : List AV} (hc : h[c]? = some (.row cs ver fl false)) (hoff : off ≤ cs.length)
    {vs rest : List Value} (hvs : RelL F m (cs.drop off ++ xs) vs) (hsc : xs.all AV.sc = true) {t : TypeId} (hh : w'.heap = w.heap.push (.cells (vs ++ rest).toArray t (0, 0))) (ho : w'.os = w.os) (ht : w'.tape = w.tape) (hu : w'.output = w.output) :
    StepR F base m h w (m.addRow c (ver + 1) ⟨w.heap.size, 0, off, cs.length + xs.length, vs.length + rest.length⟩) (h.set c (.row (cs ++ xs) (ver + 1) fl false)) w' ∨ ¬ m.placed c := by
  by_cases hpl : m.placed c
  case neg => exact .inr hpl
  refine .inl ?_
  have hlt := (List.getElem?_eq_some_iff.1 hc).1
  have hget : ∀ j, (h.set c (.row (cs ++ xs) (ver + 1) fl false))[j]? = if j = c then some (.row (cs ++ xs) (ver + 1) fl false) else h[j]? := set_get hlt
  have hnone : m.row c (ver + 1) = none := by
    cases hk : m.row c (ver + 1) with
    | none => rfl
    | some p => have := hr.vers c _ _ _ _ _ p hc hk; omega
  have hm := Emb.le_addRow (p := ⟨w.heap.size, 0, off, cs.length + xs.length, vs.length + rest.length⟩) hnone
  have hold : ∀ b : Nat, b < w.heap.size → w'.heap[b]? = w.heap[b]? := by
    intro b hb
    rw [hh, Array.getElem?_push, if_neg (by omega)]
  have hlen := hvs.length
  simp only [List.length_append, List.length_drop] at hlen
  obtain ⟨k0, p0, hp0⟩ : ∃ k p, m.row c k = some p := by
    rcases hpl with h1 | ⟨b, hb⟩
    · exact h1
    · obtain ⟨o, ho, hi⟩ := hr.objc c b hb; rw [hc] at ho; cases ho; cases hi
  refine ⟨hm, ?_, ho, ht, hu, by rw [hh]; simp, fun b hb _ => hold b hb, ?_, fun c b h => .inl h, ?_, by simp⟩
  · refine ⟨?_, ?_, ?_, ?_, hr.injo, ?_, ?_, ?_, ?_, by rw [hh]; have := hr.le; simp; omega⟩
    · intro c' k p hp
      rw [hget]
      by_cases he : c' = c
      · exact ⟨_, if_pos he, rfl⟩
      · rw [if_neg he]
        rcases Emb.addRow_inv hp with ⟨h1, _, _⟩ | hp
        · exact absurd h1 he
        · exact hr.rowc c' k p hp
    · intro c' b hb
      obtain ⟨o, ho, hi⟩ := hr.objc c' b hb
      rw [hget]
      by_cases he : c' = c
      · subst he; rw [hc] at ho; cases ho; cases hi
      · rw [if_neg he]; exact ⟨o, ho, hi⟩
    · intro c' o hc'
      rw [hget] at hc'
      by_cases he : c' = c
      · subst he
        rw [if_pos rfl] at hc'; cases hc'
        intro k p hp hk
        rcases Emb.addRow_inv hp with ⟨_, rfl, rfl⟩ | hp
        · refine ⟨Nat.le_refl _, by simp, fun _ => by simp, fun _ => hr.le, (vs ++ rest).toArray, t, (0, 0), by rw [hh]; simp, by simp, by simp; omega, fun _ => .inr (Nat.le_refl _), ?_⟩
          intro j hj1 hj2
          simp only at hj1 hj2
          obtain ⟨x, hx⟩ : ∃ x, (cs ++ xs)[j]? = some x := ⟨(cs ++ xs)[j]'(by simp; omega), by simp⟩
          have hx' : (cs.drop off ++ xs)[j - off]? = some x := by
            rw [← hx]
            by_cases g : j < cs.length
            · rw [List.getElem?_append_left (by simp; omega), List.getElem?_append_left g, List.getElem?_drop]; congr 1; omega
            · rw [List.getElem?_append_right (by simp; omega), List.getElem?_append_right (by omega)]; congr 1; simp; omega
          obtain ⟨v, hv, hxv⟩ := hvs.get _ x hx'
          refine ⟨x, v, hx, ?_, RelV.mono hm _ _ hxv⟩
          simp only [Nat.zero_add, List.getElem?_toArray]
          rw [List.getElem?_append_left (by omega)]; exact hv
        · obtain ⟨h1, h2, h3, h4, C, e, fr, hg, hs, hb, hf, hcell⟩ := hr.ob c' _ hc k p hp hk
          refine ⟨by omega, by simp; omega, fun he => by omega, h4, C, e, fr, by rw [hold _ (hr.ltr c' k p hp), hg], hs, hb, hf, fun j hj1 hj2 => ?_⟩
          obtain ⟨x, v, hx, hv, hxv⟩ := hcell j hj1 hj2
          exact ⟨x, v, by rw [List.getElem?_append_left (by omega)]; exact hx, hv, RelV.mono hm _ _ hxv⟩
      · rw [if_neg he] at hc'
        refine ObjRel.keep (hr.ob c' o hc') hm ?_ (fun b hb => hb) (fun k p hp => hold _ (hr.ltr c' k p hp)) (fun b hb => hold _ (hr.lto c' b hb))
        intro k p hp
        rcases Emb.addRow_inv hp with ⟨h1, _, _⟩ | hp
        · exact absurd h1 he
        · exact hp
    · intro c1 k p c2 k' p' hp hp' hb he
      rcases Emb.addRow_inv hp with ⟨e1, e2, e3⟩ | hq <;> rcases Emb.addRow_inv hp' with ⟨e4, e5, e6⟩ | hq'
      · subst e1 e2 e3 e4 e5 e6; exact ⟨rfl, rfl, rfl⟩
      · have := hr.ltr _ _ _ hq'; rw [e3] at he; simp only at he; omega
      · have := hr.ltr _ _ _ hq; rw [e6] at he; simp only at he; omega
      · exact hr.inj c1 k p c2 k' p' hq hq' hb he
    · intro c1 k p c2 b hp hb
      rcases Emb.addRow_inv hp with ⟨rfl, rfl, rfl⟩ | hp
      · have := hr.lto c2 b hb; simp only; omega
      · exact hr.injr c1 k p c2 b hp hb
    · intro c1 k p hp
      rw [hh]
      rcases Emb.addRow_inv hp with ⟨rfl, rfl, rfl⟩ | hp
      · simp
      · have := hr.ltr c1 k p hp; simp; omega
    · intro c1 b hb
      rw [hh]; have := hr.lto c1 b hb; simp; omega
    · intro c1 cs' ver' fl' ro k p hc1 hp
      rw [hget] at hc1
      by_cases he : c1 = c
      · subst he
        rw [if_pos rfl] at hc1; cases hc1
        rcases Emb.addRow_inv hp with ⟨_, rfl, _⟩ | hp
        · exact Nat.le_refl _
        · have := hr.vers c1 _ _ _ _ k p hc hp; omega
      · rw [if_neg he] at hc1
        rcases Emb.addRow_inv hp with ⟨h1, _, _⟩ | hp
        · exact absurd h1 he
        · exact hr.vers c1 cs' ver' fl' ro k p hc1 hp
  · intro c1 k p hp
    rcases Emb.addRow_inv hp with ⟨rfl, rfl, rfl⟩ | hp
    · exact .inr ⟨.inr ⟨k0, p0, hp0⟩, .inl (Nat.le_refl _)⟩
    · exact .inl hp
  · intro c1 _ hn
    rw [hget, if_neg]
    rintro rfl
    exact hn hpl

/-- An append in place. -/
theorem place_step {P : Program} {F : Nat → Nat} {base : Nat} {m : Emb} {h : AH} {w : World} (hr : RelH F base m h w) {c ver fl : Nat} {cs xs : List AV} (hc : h[c]? = some (.row cs ver fl false)) (hfl : fl ≤ ver) {p : Place} (hp : m.row c ver = some p)
    {vs : List Value} (hvs : RelL F m xs vs) (hsc : xs.all AV.sc = true) (hfit : p.base + (p.ext - p.lo) + xs.length ≤ p.siz) (hlo : p.lo ≤ p.ext ∨ xs.length = 0) :
    ∃ w', (storeCells ⟨p.blk, p.base + (p.ext - p.lo), none⟩ vs).run P w = .ok () w' ∧
      StepR F base m h w (m.addRow c (ver + 1) ⟨p.blk, p.base, p.lo, p.ext + xs.length, p.siz⟩) (h.set c (.row (cs ++ xs) (ver + 1) fl false)) w' := by
  obtain ⟨_, h2, h3, h4, C, e, fr, hg, hs, hb, hf, hcell⟩ := hr.ob c _ hc ver p hp hfl
  have hlen := hvs.length
  have hbase := h4 rfl
  have hext := h3 rfl
  have hone : ∀ v ∈ vs, v.oneCell' = true := by
    intro v hv
    obtain ⟨i, hi⟩ := List.mem_iff_getElem?.1 hv
    have hlt := (List.getElem?_eq_some_iff.1 hi).1
    obtain ⟨v', hv', hx⟩ := hvs.get i xs[i] (by simp)
    rw [hi] at hv'; cases hv'
    exact hx.one (List.all_eq_true.1 hsc _ (by simp))
  have hrun := run_stores (P := P) p.blk (p.base + (p.ext - p.lo)) e fr vs 0 w C.toList (by simpa using hg) (by simp; omega) (by simp only [Array.length_toList, hs]; exact hf rfl) hone
  refine ⟨_, hrun, ?_⟩
  have hnone : m.row c (ver + 1) = none := by
    cases hk : m.row c (ver + 1) with
    | none => rfl
    | some p => have := hr.vers c _ _ _ _ _ p hc hk; omega
  have hm := Emb.le_addRow (p := ⟨p.blk, p.base, p.lo, p.ext + xs.length, p.siz⟩) hnone
  obtain ⟨o1, o2⟩ := hr.one_row hp hbase
  have hsplice : (splice C.toList (p.base + (p.ext - p.lo) + 0) vs).length = C.toList.length := splice_length (by simp; omega)
  refine set_step hr hc rfl hm ?_ rfl (OneW.put (heap_lt hg)) hbase o1 o2 (.inl ⟨c, ver, p, hp, rfl⟩) ?_ ?_
  · intro c' k p' hp'
    rcases Emb.addRow_inv hp' with ⟨rfl, rfl, rfl⟩ | hp'
    · exact .inr ⟨rfl, ver, p, hp, rfl, rfl, rfl⟩
    · exact .inl hp'
  · intro k p' hp' hk
    rcases Emb.addRow_inv hp' with ⟨_, rfl, rfl⟩ | hp'
    · refine ⟨Nat.le_refl _, by simp; omega, fun _ => by simp; omega, fun _ => hbase, (splice C.toList (p.base + (p.ext - p.lo) + 0) vs).toArray, e, fr, by rw [putRow_get (heap_lt hg), if_pos rfl], by simp only [List.size_toArray]; rw [hsplice]; simpa using hs, by simp only; omega, fun _ => hf rfl, ?_⟩
      intro j hj1 hj2
      simp only at hj1 hj2
      rw [List.getElem?_toArray, splice_get (by simp; omega)]
      by_cases g : j < p.ext
      · obtain ⟨x, v, hx, hv, hxv⟩ := hcell j hj1 g
        exact ⟨x, v, by rw [List.getElem?_append_left (by omega)]; exact hx, by rw [if_pos (by simp only; omega)]; simpa using hv, RelV.mono hm _ _ hxv⟩
      · obtain ⟨y, hy⟩ : ∃ y, xs[j - p.ext]? = some y := ⟨xs[j - p.ext]'(by omega), by simp⟩
        obtain ⟨u, hu, hyu⟩ := hvs.get _ y hy
        refine ⟨y, u, by rw [List.getElem?_append_right (by omega), ← hext]; exact hy, ?_, RelV.mono hm _ _ hyu⟩
        rw [if_neg (by simp only; omega), if_pos (by simp only; omega)]
        simp only
        rw [show p.base + (j - p.lo) - (p.base + (p.ext - p.lo) + 0) = j - p.ext by omega]; exact hu
    · obtain ⟨g1, g2, g3, g4, C', e', fr', hg', hs', hb', hf', hcell'⟩ := hr.ob c _ hc k p' hp' hk
      by_cases hbl : p'.blk = p.blk
      · obtain ⟨_, a2, a3⟩ := hr.inj c ver p c k p' hp hp' hbase hbl.symm
        rw [hbl, hg] at hg'; cases hg'
        refine ⟨by omega, by simp; omega, fun he => by omega, g4, (splice C.toList (p.base + (p.ext - p.lo) + 0) vs).toArray, e, fr, by rw [hbl, putRow_get (heap_lt hg), if_pos rfl], by simp only [List.size_toArray]; rw [hsplice]; simp; omega, hb', hf', ?_⟩
        intro j hj1 hj2
        obtain ⟨x, v, hx, hv, hxv⟩ := hcell' j hj1 hj2
        refine ⟨x, v, by rw [List.getElem?_append_left (by omega)]; exact hx, ?_, RelV.mono hm _ _ hxv⟩
        rw [List.getElem?_toArray, splice_get (by simp; omega), if_pos (by omega)]; simpa using hv
      · refine ⟨by omega, by simp; omega, fun he => by omega, g4, C', e', fr', by rw [putRow_get (heap_lt hg), if_neg hbl, hg'], hs', hb', hf', ?_⟩
        intro j hj1 hj2
        obtain ⟨x, v, hx, hv, hxv⟩ := hcell' j hj1 hj2
        exact ⟨x, v, by rw [List.getElem?_append_left (by omega)]; exact hx, hv, RelV.mono hm _ _ hxv⟩
  · intro cs' ver' fl' ro' k p' he hp'
    cases he
    rcases Emb.addRow_inv hp' with ⟨_, rfl, _⟩ | hp'
    · exact Nat.le_refl _
    · have := hr.vers c _ _ _ _ k p' hc hp'; omega

/-! ### New maps and iterators -/
theorem newObj_step {F : Nat → Nat} {base : Nat} {m : Emb} {h : AH} {w w' : World} (hr : RelH F base m h w) {o : AO} {ob : Obj} (ho : o.isRow = false) (hh : w'.heap = w.heap.push ob) (hos : w'.os = w.os) (ht : w'.tape = w.tape) (hu : w'.output = w.output)
    (hob : ObjRel F base (m.addObj h.length w.heap.size) w' h.length o) : StepR F base m h w (m.addObj h.length w.heap.size) (h ++ [o]) w' := by
  have hnone : ∀ k, m.row h.length k = none := by
    intro k
    cases hk : m.row h.length k with
    | none => rfl
    | some p => obtain ⟨o, ho, _⟩ := hr.rowc _ _ _ hk; simp at ho
  have hnone2 : m.obj h.length = none := by
    cases hk : m.obj h.length with
    | none => rfl
    | some p => obtain ⟨o, ho, _⟩ := hr.objc _ _ hk; simp at ho
  have hm : m.le (m.addObj h.length w.heap.size) := Emb.le_addObj hnone2
  have hold : ∀ b : Nat, b < w.heap.size → w'.heap[b]? = w.heap[b]? := by
    intro b hb
    rw [hh, Array.getElem?_push, if_neg (by omega)]
  refine ⟨hm, ?_, hos, ht, hu, by rw [hh]; simp, fun b hb _ => hold b hb, fun c k p h => .inl h, ?_, ?_, by simp⟩
  · refine ⟨?_, ?_, ?_, hr.inj, ?_, ?_, ?_, ?_, ?_, by rw [hh]; have := hr.le; simp; omega⟩
    · intro c k p hp
      obtain ⟨o, ho, hi⟩ := hr.rowc c k p hp
      exact ⟨o, by rw [List.getElem?_append_left (List.getElem?_eq_some_iff.1 ho).1]; exact ho, hi⟩
    · intro c b hb
      rcases Emb.addObj_inv hb with ⟨rfl, _⟩ | hb
      · exact ⟨o, by simp, ho⟩
      · obtain ⟨o, ho, hi⟩ := hr.objc c b hb
        exact ⟨o, by rw [List.getElem?_append_left (List.getElem?_eq_some_iff.1 ho).1]; exact ho, hi⟩
    · intro c u hc
      by_cases hlt : c < h.length
      · rw [List.getElem?_append_left hlt] at hc
        refine ObjRel.keep (hr.ob c u hc) hm (fun k p hp => hp) ?_ (fun k p hp => hold _ (hr.ltr c k p hp)) (fun b hb => hold _ (hr.lto c b hb))
        intro b hb
        rcases Emb.addObj_inv hb with ⟨rfl, _⟩ | hb
        · omega
        · exact hb
      · rw [List.getElem?_append_right (by omega)] at hc
        have hce : c = h.length := by
          by_cases he : c = h.length
          · exact he
          · rw [List.getElem?_eq_none (by simp; omega)] at hc; cases hc
        subst hce
        simp only [Nat.sub_self, List.getElem?_cons_zero, Option.some.injEq] at hc
        subst hc
        exact hob
    · intro c c' b h1 h2
      rcases Emb.addObj_inv h1 with ⟨rfl, rfl⟩ | h1 <;> rcases Emb.addObj_inv h2 with ⟨rfl, h3⟩ | h2
      · rfl
      · have := hr.lto _ _ h2; omega
      · have := hr.lto _ _ h1; omega
      · exact hr.injo c c' b h1 h2
    · intro c k p c' b hp hb
      rcases Emb.addObj_inv hb with ⟨rfl, rfl⟩ | hb
      · have := hr.ltr c k p hp; omega
      · exact hr.injr c k p c' b hp hb
    · intro c k p hp
      rw [hh]; have := hr.ltr c k p hp; simp; omega
    · intro c b hb
      rw [hh]
      rcases Emb.addObj_inv hb with ⟨rfl, rfl⟩ | hb
      · simp
      · have := hr.lto c b hb; simp; omega
    · intro c cs ver fl ro k p hc hp
      obtain ⟨o, ho, _⟩ := hr.rowc c k p hp
      rw [List.getElem?_append_left (List.getElem?_eq_some_iff.1 ho).1] at hc
      exact hr.vers c cs ver fl ro k p hc hp
  · intro c b hb
    rcases Emb.addObj_inv hb with ⟨rfl, rfl⟩ | hb
    · exact .inr ⟨Nat.le_refl _, Nat.le_refl _⟩
    · exact .inl hb
  · intro c hc _
    rw [List.getElem?_append_left hc]

/-- A map or an iterator is turned. -/
theorem setObj_step {F : Nat → Nat} {base : Nat} {m : Emb} {h : AH} {w : World} (hr : RelH F base m h w) {c b : Nat} {o o' : AO} {ob : Obj} (hc : h[c]? = some o) (hk : o.isRow = false) (hk' : o'.isRow = false) (hb : m.obj c = some b) (hbase : base ≤ b)
    (hob : ObjRel F base m { w with heap := w.heap.setIfInBounds b ob } c o') : StepR F base m h w m (h.set c o') { w with heap := w.heap.setIfInBounds b ob } := by
  have hlt := hr.lto c b hb
  refine set_step hr hc (by rw [hk, hk']) (Emb.le_refl m) (fun _ _ _ h => .inl h) rfl (b := b) ⟨rfl, rfl, rfl, by simp, fun j hj => ?_⟩ hbase ?_ (fun c' h' => hr.injo c' c b h' hb) (.inr ⟨c, hb⟩) hob ?_
  · show (w.heap.setIfInBounds b ob)[j]? = _
    rw [Array.getElem?_setIfInBounds, if_neg (Ne.symm hj)]
  · intro c' k p hp he
    exact absurd he (hr.injr c' k p c b hp hb)
  · intro cs ver fl ro k p he _
    subst he; cases hk'

end Go.Proofs.YthoibdfcaejgbaaDoor.Ab
