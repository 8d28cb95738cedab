/- Part 1 of the proof of a law of the given program: the rules that it leans on, and what the functions that it reaches answer; the conditions stand with each theorem. -/
import Derived.Tactics
import Derived.WalkKit
import Derived.Lib.Bytealg
import Derived.Lib.SlTrimSet
import Derived.Lib.Join
import Derived.Lib.Repeat
set_option linter.unusedSimpArgs false
set_option linter.unusedVariables false
/- THE ABSTRACT MACHINE: values, heap, compact instructions, evaluator. No program in sight. -/
namespace Go.Proofs.YtmlmfjjfciiblaaGreatDoor.Ab
open Go

/-! ### Values and heap -/
inductive AV where
  | int (k : IntKind) (n : Int)
  | bool (b : Bool)
  | str (s : List UInt8)
  | nilS
  | empS
  | slice (c k off len esz : Nat)
  | nilP
  | ptr (c k off n : Nat)
  | nilM
  | map (c : Nat)
  | iter (c : Nat)
  | fn (f : Nat) (cap : List AV)
  | nilF
  | agg (xs : List AV)
  | tup (xs : List AV)
  | nilI
  | ifc
  | undef
  deriving Inhabited

inductive AO where
  | row (cs : List AV) (ver floor : Nat) (ro : Bool)
  | map (es : List (AV × AV))
  | iter (s : List UInt8) (pos : Nat)
  deriving Inhabited

abbrev AH := List AO

def AV.cells : AV → List AV
  | .agg xs => xs
  | v => [v]

/-- A value that fills one cell. -/
def AV.sc : AV → Bool
  | .agg _ | .tup _ | .undef => false
  | _ => true

def mkv (agg : Bool) (xs : List AV) : Option AV :=
  if agg then some (.agg xs) else match xs with
    | [v] => some v
    | _ => none

/-! ### Environments: slots that are known -/
abbrev Env := List (Nat × AV)
def Env.get : Env → Nat → AV
  | [], _ => .undef
  | (k, v) :: e, t => if k = t then v else Env.get e t
def Env.set : Env → Nat → AV → Env
  | [], t, v => [(t, v)]
  | (k, u) :: e, t, v => if k = t then (t, v) :: e else if t < k then (t, v) :: (k, u) :: e else (k, u) :: Env.set e t v
def Env.del : Env → Nat → Env
  | [], _ => []
  | (k, u) :: e, t => if k = t then Env.del e t else (k, u) :: Env.del e t
def Env.dels (e : Env) : List Nat → Env
  | [] => e
  | t :: ts => Env.dels (e.del t) ts
def Env.init : Nat → List AV → Env
  | _, [] => []
  | i, v :: vs => (i, v) :: Env.init (i + 1) vs

/-! ### Instructions -/
inductive Opd where
  | t (n : Nat)
  | c (v : AV)

inductive AOp where
  | mov (x : Opd)
  | pick (c a b : Opd)
  | bin (op : BinOp) (x y : Opd)
  | beq (neg : Bool) (x y : Opd)
  | aeq (neg : Bool) (kds : List Nat) (x y : Opd)
  | niq (neg : Bool) (kd : Nat) (x : Opd)
  | un (op : UnOp) (x : Opd)
  | conv (k : IntKind) (x : Opd)
  | toB (x : Opd)
  | ofB (x : Opd)
  | ofR (x : Opd)
  | new (zero : List AV)
  | box (x : Opd)
  | build (zero : List AV) (parts : List (Nat × Nat × Opd))
  | lit (esz len : Nat) (zero : List AV) (parts : List (Nat × Nat × Opd))
  | lit0
  | load (agg : Bool) (n : Nat) (a : Opd)
  | store (n : Nat) (a x : Opd)
  | nck (x : Opd)
  | faddr (off n : Nat) (a : Opd)
  | fld (agg : Bool) (off n : Nat) (x : Opd)
  | iaddr (esz : Nat) (x i : Opd)
  | iaddrA (len esz : Nat) (a i : Opd)
  | idx (agg : Bool) (len esz : Nat) (x i : Opd)
  | idxS (x i : Opd)
  | sub (esz : Nat) (x : Opd) (lo hi : Option Opd)
  | sub0 (x : Opd) (hi mx : Opd)
  | subS (x : Opd) (lo hi : Option Opd)
  | subA (len esz : Nat) (a : Opd) (lo hi : Option Opd)
  | make (esz : Nat) (zero : List AV) (len cap : Opd)
  | mkmap
  | mkfn (f : Nat) (caps : List Opd)
  | look (kd : Nat) (zero : AV) (ok : Bool) (m k : Opd)
  | mset (kd : Nat) (m k v : Opd)
  | mlen (m : Opd)
  | rng (x : Opd)
  | nxt (it : Opd)
  | prj (i : Nat) (x : Opd)
  | call (f : Nat) (xs : List Opd)
  | callv (x : Opd) (xs : List Opd)
  | lenS (x : Opd)
  | lenV (x : Opd)
  | app (esz : Nat) (s x : Opd)
  | appS (s x : Opd)
  | copy (esz : Nat) (d s : Opd)
  | clr (zero : List AV) (x : Opd)
  | mmx (max : Bool) (x y : Opd)

structure I where
  dst : Option Nat
  op : AOp
  grd : Option (Nat × Bool) := none

inductive C where
  | skip
  | reg (is : List I)
  | drw (is : List I) (ps : List (Nat × Nat))
  | kl (ts : List Nat) (c : C)
  | seq (a b : C)
  | cond (x : Opd) (a b : C)
  | blk (id : Nat) (c : C)
  | loop (c : C)
  | exit (id : Nat)
  | ret
  | bad

inductive Res where
  | tmp (t : Nat)
  | cell (agg : Bool) (n : Nat) (t : Nat)

structure FI where
  body : C
  res : List Res

/-! ### Memory -/
def room : Nat := 1099511627776

def rdRow (h : AH) (c k off n : Nat) : Option (List AV) :=
  match h[c]? with
  | some (.row cs ver fl _) => if fl ≤ k ∧ k ≤ ver ∧ off + n ≤ cs.length then some ((cs.drop off).take n) else none
  | _ => none

def splice {α : Type} (cs : List α) (off : Nat) (vs : List α) : List α := cs.take off ++ vs ++ cs.drop (off + vs.length)

def wrRow (h : AH) (c k off : Nat) (vs : List AV) : Option AH :=
  match h[c]? with
  | some (.row cs ver fl false) => if k = ver ∧ fl ≤ ver ∧ off + vs.length ≤ cs.length ∧ vs.all AV.sc = true then some (h.set c (.row (splice cs off vs) ver ver false)) else none
  | _ => none

def newRow (h : AH) (cs : List AV) : Option (Nat × AH) := if cs.all AV.sc = true then some (h.length, h ++ [.row cs 0 0 false]) else none

/-- What a slice or a string holds, cell by cell. -/
def cellsOf (h : AH) : AV → Option (List AV)
  | .nilS | .empS => some []
  | .slice c k off len esz => rdRow h c k off (len * esz)
  | .str s => some (s.map fun b => .int .u8 b.toNat)
  | _ => none

/-- append: of n elements, the cells vs. -/
def apRow (h : AH) (esz : Nat) (s : AV) (n : Nat) (vs : List AV) : Option (AV × AH) :=
  match s with
  | .nilS => if n = 0 then some (.nilS, h) else if n ≤ room then (newRow h vs).map fun (c, h') => (.slice c 0 0 n esz, h') else none
  | .empS => if n = 0 then some (.empS, h) else if n ≤ room then (newRow h vs).map fun (c, h') => (.slice c 0 0 n esz, h') else none
  | .slice c k off len e =>
    match h[c]? with
    | some (.row cs ver fl false) =>
      if e = esz ∧ k = ver ∧ off + len * esz = cs.length ∧ fl ≤ ver ∧ vs.all AV.sc = true ∧ len + n ≤ room then
        some (.slice c (ver + 1) off (len + n) esz, h.set c (.row (cs ++ vs) (ver + 1) fl false)) else none
    | _ => none
  | _ => none

/-! ### Keys of maps -/
def keyEq : AV → AV → Option Bool
  | .int k a, .int k' b => if k = k' then some (a == b) else none
  | .str a, .str b => some (a == b)
  | .bool a, .bool b => some (a == b)
  | _, _ => none
def keyIs : Nat → AV → Bool
  | 0, .int _ _ | 1, .str _ | 2, .bool _ => true
  | _, _ => false
def seqL : List Nat → List AV → List AV → Option Bool
  | [], [], [] => some true
  | kd :: kds, x :: xs, y :: ys => match keyIs kd x, keyEq x y, seqL kds xs ys with
    | true, some a, some b => some (a && b)
    | _, _, _ => none
  | _, _, _ => none

def mfind (k : AV) : List (AV × AV) → Option (Option AV)
  | [] => some none
  | (a, v) :: es => match keyEq k a with
    | some true => some (some v)
    | some false => mfind k es
    | none => none
def mput (k v : AV) : List (AV × AV) → List (AV × AV)
  | [] => [(k, v)]
  | (a, u) :: es => match keyEq k a with
    | some true => (k, v) :: es
    | _ => (a, u) :: mput k v es

/-! ### Operations -/
def two63 : Nat := 9223372036854775807
def binI (op : BinOp) (k : IntKind) (x y : Int) : Option AV :=
  match op with
  | .add => some (.int k (k.wrap (x + y)))
  | .sub => some (.int k (k.wrap (x - y)))
  | .mul => some (.int k (k.wrap (x * y)))
  | .quo => if y = 0 then none else some (.int k (k.wrap (x.tdiv y)))
  | .rem => if y = 0 then none else some (.int k (x.tmod y))
  | .and | .or | .xor | .andNot => some (.int k (bits op k x y))
  | .eql => some (.bool (x == y))
  | .neq => some (.bool (x != y))
  | .lss => some (.bool (decide (x < y)))
  | .leq => some (.bool (decide (x ≤ y)))
  | .gtr => some (.bool (decide (x > y)))
  | .geq => some (.bool (decide (x ≥ y)))
  | .shl | .shr => none
def binSh (op : BinOp) (k : IntKind) (x y : Int) : Option AV :=
  if y < 0 then none else match op with
  | .shl => some (.int k (k.wrap (x * 2 ^ (min y.toNat k.bits))))
  | .shr => some (.int k (x.fdiv (2 ^ (min y.toNat k.bits))))
  | _ => none
def binS (op : BinOp) (x y : List UInt8) : Option AV :=
  match op with
  | .add => if x.length + y.length ≤ two63 then some (.str (x ++ y)) else none
  | .eql => some (.bool (x == y))
  | .neq => some (.bool (!(x == y)))
  | .lss => some (.bool (Op.bytesLess x y))
  | .leq => some (.bool (Op.bytesLess x y || x == y))
  | .gtr => some (.bool (!(Op.bytesLess x y || x == y)))
  | .geq => some (.bool (!(Op.bytesLess x y)))
  | _ => none
def evBin (op : BinOp) : AV → AV → Option AV
  | .int k x, .int k' y => match op with
    | .shl | .shr => binSh op k x y
    | _ => if k = k' then binI op k x y else none
  | .str x, .str y => binS op x y
  | _, _ => none

def evNil : Nat → AV → Option Bool
  | 0, .nilS | 1, .nilP | 2, .nilM | 3, .nilF | 4, .nilI => some true
  | 0, .empS | 0, .slice .. | 1, .ptr .. | 2, .map _ | 3, .fn .. | 4, .ifc => some false
  | _, _ => none

def byte1 : AV → Option UInt8
  | .int .u8 n => some (UInt8.ofNat n.toNat)
  | _ => none
def bytesL : List AV → Option (List UInt8)
  | [] => some []
  | v :: vs => match byte1 v, bytesL vs with
    | some b, some bs => some (b :: bs)
    | _, _ => none

def fillP (cells : List AV) : List (Nat × Nat × AV) → Option (List AV)
  | [] => some cells
  | (off, n, v) :: rest => if v.cells.length = n ∧ off + n ≤ cells.length ∧ v.cells.all AV.sc = true then fillP (splice cells off v.cells) rest else none

def dec (s : List UInt8) (pos : Nat) : Int × Nat := let (c, w) := Utf8.decode ⟨s.toArray⟩ pos; (c, w)

def bnd (o : Option AV) (d top : Nat) : Option Nat :=
  match o with
  | none => some d
  | some (.int _ i) => if 0 ≤ i ∧ i ≤ top then some i.toNat else none
  | _ => none

abbrev CF := Nat → List AV → AH → Option (AV × AH)

def optv (ρ : Opd → AV) : Option Opd → Option AV
  | none => none
  | some x => some (ρ x)

def evOp (cf : CF) (ρ : Opd → AV) (h : AH) : AOp → Option (AV × AH)
  | .mov x => some (ρ x, h)
  | .pick c a b => match ρ c with
    | .bool t => some (if t then ρ a else ρ b, h)
    | _ => none
  | .bin op x y => (evBin op (ρ x) (ρ y)).map (·, h)
  | .beq neg x y => match ρ x, ρ y with
    | .bool a, .bool b => some (.bool (if neg then !(a == b) else a == b), h)
    | _, _ => none
  | .aeq neg kds x y => match ρ x, ρ y with
    | .agg xs, .agg ys => (seqL kds xs ys).map fun b => (.bool (if neg then !b else b), h)
    | _, _ => none
  | .niq neg kd x => (evNil kd (ρ x)).map fun b => (.bool (if neg then !b else b), h)
  | .un op x => match op, ρ x with
    | .neg, .int k n => some (.int k (k.wrap (0 - n)), h)
    | .not, .bool b => some (.bool (!b), h)
    | _, _ => none
  | .conv k x => match ρ x with
    | .int _ n => some (.int k (k.wrap n), h)
    | _ => none
  | .toB x => match ρ x with
    | .str s => if s.length ≤ room then (newRow h (s.map fun b => .int .u8 b.toNat)).map fun (c, h') => (.slice c 0 0 s.length 1, h') else none
    | _ => none
  | .ofB x => match ρ x with
    | .nilS | .empS => some (.str [], h)
    | .slice c k off len e => if e = 1 then match rdRow h c k off len with
        | some cs => (bytesL cs).map fun s => (.str s, h)
        | none => none
      else none
    | _ => none
  | .ofR x => match ρ x with
    | .int _ n => some (.str (Utf8.encode n).data.toList, h)
    | _ => none
  | .new zero => (newRow h zero).map fun (c, h') => (.ptr c 0 0 zero.length, h')
  | .box x => match ρ x with
    | .undef | .tup _ => none
    | v => (newRow h v.cells).map fun (c, h') => (.ptr c 0 0 v.cells.length, h')
  | .build zero parts => (fillP zero (parts.map fun (o, n, x) => (o, n, ρ x))).map fun cs => (.agg cs, h)
  | .lit esz len zero parts => match fillP zero (parts.map fun (o, n, x) => (o, n, ρ x)) with
    | some cs => (newRow h cs).map fun (c, h') => (.slice c 0 0 len esz, h')
    | none => none
  | .lit0 => some (.empS, h)
  | .load agg n a => match ρ a with
    | .ptr c k off m => if n ≤ m then match rdRow h c k off n with
        | some cs => (mkv agg cs).map (·, h)
        | none => none
      else none
    | _ => none
  | .store n a x => match ρ a with
    | .ptr c k off m => if n ≤ m ∧ (ρ x).cells.length = n then (wrRow h c k off (ρ x).cells).map fun h' => (.undef, h') else none
    | _ => none
  | .nck x => match ρ x with
    | .ptr c k off n => some (.ptr c k off n, h)
    | .fn f cs => some (.fn f cs, h)
    | _ => none
  | .faddr off n a => match ρ a with
    | .ptr c k o m => if off + n ≤ m then some (.ptr c k (o + off) n, h) else none
    | _ => none
  | .fld agg off n x => match ρ x with
    | .agg xs => if off + n ≤ xs.length then (mkv agg ((xs.drop off).take n)).map (·, h) else none
    | _ => none
  | .iaddr esz x i => match ρ x, ρ i with
    | .slice c k off len e, .int _ j => if e = esz ∧ 0 ≤ j ∧ j < len then some (.ptr c k (off + j.toNat * esz) esz, h) else none
    | _, _ => none
  | .iaddrA len esz a i => match ρ a, ρ i with
    | .ptr c k off m, .int _ j => if len * esz ≤ m ∧ 0 ≤ j ∧ j < len then some (.ptr c k (off + j.toNat * esz) esz, h) else none
    | _, _ => none
  | .idx agg len esz x i => match ρ x, ρ i with
    | .agg xs, .int _ j => if xs.length = len * esz ∧ 0 ≤ j ∧ j < len then (mkv agg ((xs.drop (j.toNat * esz)).take esz)).map (·, h) else none
    | _, _ => none
  | .idxS x i => match ρ x, ρ i with
    | .str s, .int _ j => if 0 ≤ j ∧ j < s.length then some (.int .u8 (s.getD j.toNat 0).toNat, h) else none
    | _, _ => none
  | .sub esz x lo hi => match ρ x with
    | .nilS => match bnd (optv ρ hi) 0 0 with
      | some b => match bnd (optv ρ lo) 0 b with
        | some _ => some (.nilS, h)
        | none => none
      | none => none
    | .empS => match bnd (optv ρ hi) 0 0 with
      | some b => match bnd (optv ρ lo) 0 b with
        | some _ => some (.empS, h)
        | none => none
      | none => none
    | .slice c k off len e => if e = esz then match bnd (optv ρ hi) len len with
        | some b => match bnd (optv ρ lo) 0 b with
          | some a => some (.slice c k (off + a * esz) (b - a) esz, h)
          | none => none
        | none => none
      else none
    | _ => none
  | .sub0 x hi mx => match ρ x, ρ hi, ρ mx with
    | .nilS, .int _ 0, .int _ 0 => some (.nilS, h)
    | .empS, .int _ 0, .int _ 0 => some (.empS, h)
    | .slice .., .int _ 0, .int _ 0 => some (.empS, h)
    | _, _, _ => none
  | .subS x lo hi => match ρ x with
    | .str s => match bnd (optv ρ hi) s.length s.length with
      | some b => match bnd (optv ρ lo) 0 b with
        | some a => some (.str ((s.drop a).take (b - a)), h)
        | none => none
      | none => none
    | _ => none
  | .subA len esz a lo hi => match ρ a with
    | .ptr c k off m => if len * esz ≤ m ∧ (rdRow h c k off (len * esz)).isSome = true then match bnd (optv ρ hi) len len with
        | some b => match bnd (optv ρ lo) 0 b with
          | some a => some (.slice c k (off + a * esz) (b - a) esz, h)
          | none => none
        | none => none
      else none
    | _ => none
  | .make esz zero len cap => match ρ len, ρ cap with
    | .int _ n, .int _ m => if 0 ≤ n ∧ n ≤ m ∧ m ≤ room ∧ zero.length = esz then
        (newRow h (List.replicate n.toNat zero).flatten).map fun (c, h') => (.slice c 0 0 n.toNat esz, h') else none
    | _, _ => none
  | .mkmap => some (.map h.length, h ++ [.map []])
  | .mkfn f caps => some (.fn f (caps.map ρ), h)
  | .look kd zero ok m k => if keyIs kd (ρ k) = true then match (match ρ m with
      | .nilM => some []
      | .map c => match h[c]? with
        | some (.map es) => some es
        | _ => none
      | _ => none) with
    | some es => match mfind (ρ k) es with
      | some (some v) => some (if ok then .tup [v, .bool true] else v, h)
      | some none => some (if ok then .tup [zero, .bool false] else zero, h)
      | none => none
    | none => none
    else none
  | .mset kd m k v => if keyIs kd (ρ k) = true then match ρ m with
    | .map c => match h[c]? with
      | some (.map es) => match mfind (ρ k) es with
        | some _ => match ρ v with
          | .undef => none
          | u => some (.undef, h.set c (.map (mput (ρ k) u es)))
        | none => none
      | _ => none
    | _ => none
    else none
  | .mlen m => match ρ m with
    | .nilM => some (.int .i64 0, h)
    | .map c => match h[c]? with
      | some (.map es) => some (.int .i64 es.length, h)
      | _ => none
    | _ => none
  | .rng x => match ρ x with
    | .str s => some (.iter h.length, h ++ [.iter s 0])
    | _ => none
  | .nxt it => match ρ it with
    | .iter c => match h[c]? with
      | some (.iter s pos) => if pos < s.length then
          some (.tup [.bool true, .int .i64 pos, .int .i32 (dec s pos).1], h.set c (.iter s (pos + (dec s pos).2)))
        else some (.tup [.bool false], h)
      | _ => none
    | _ => none
  | .prj i x => match ρ x with
    | .tup vs => (vs[i]?).map (·, h)
    | _ => none
  | .call f xs => cf f (xs.map ρ) h
  | .callv x xs => match ρ x with
    | .fn f cap => cf f (xs.map ρ ++ cap) h
    | _ => none
  | .lenS x => match ρ x with
    | .str s => some (.int .i64 s.length, h)
    | _ => none
  | .lenV x => match ρ x with
    | .nilS | .empS => some (.int .i64 0, h)
    | .slice _ _ _ len _ => some (.int .i64 len, h)
    | _ => none
  | .app esz s x => match ρ x with
    | .nilS | .empS => apRow h esz (ρ s) 0 []
    | .slice c k off len e => if e = esz then match rdRow h c k off (len * esz) with
        | some vs => apRow h esz (ρ s) len vs
        | none => none
      else none
    | _ => none
  | .appS s x => match ρ x with
    | .str b => apRow h 1 (ρ s) b.length (b.map fun b => .int .u8 b.toNat)
    | _ => none
  | .copy esz d s => match ρ d, ρ s with
    | .slice c k off len e, .slice c' k' off' len' e' => if e = esz ∧ e' = esz then
        if min len' len = 0 then some (.int .i64 0, h) else match rdRow h c' k' off' (min len' len * esz) with
        | some vs => (wrRow h c k off vs).map fun h' => (.int .i64 ((min len' len : Nat) : Int), h')
        | none => none
      else none
    | _, _ => none
  | .clr zero x => match ρ x with
    | .nilS | .empS => some (.tup [], h)
    | .slice c k off len e => if e = zero.length then
        if len = 0 then some (.tup [], h) else (wrRow h c k off (List.replicate len zero).flatten).map fun h' => (.tup [], h')
      else none
    | _ => none
  | .mmx mx x y => match ρ x, ρ y with
    | .int k a, .int k' b => if k = k' then some (.int k (if mx then (if b > a then b else a) else (if b < a then b else a)), h) else none
    | .str a, .str b => if mx then none else some (.str (if (Op.bytesLess a b || a == b) then a else b), h)
    | _, _ => none

def env (e : Env) : Opd → AV
  | .t n => e.get n
  | .c v => v

def put (e : Env) (d : Option Nat) (v : AV) : Env :=
  match d with
  | some t => e.set t v
  | none => e

def evI (cf : CF) (i : I) (e : Env) (h : AH) : Option (Env × AH) :=
  match i.grd with
  | none => (evOp cf (env e) h i.op).map fun (v, h') => (put e i.dst v, h')
  | some (t, want) => match e.get t with
    | .bool b => if b = want then (evOp cf (env e) h i.op).map fun (v, h') => (put e i.dst v, h') else some (put e i.dst (.tup []), h)
    | .tup [] => some (put e i.dst (.tup []), h)
    | _ => none

def evR (cf : CF) : List I → Env → AH → Option (Env × AH)
  | [], e, h => some (e, h)
  | i :: is, e, h => match evI cf i e h with
    | some (e', h') => evR cf is e' h'
    | none => none

inductive X where
  | normal
  | exit (id : Nat)
  | ret

/-- The state before operation i of a region. -/
def stateAt (cf : CF) (is : List I) (i : Nat) (e : Env) (h : AH) : Option (Env × AH) := evR cf (is.take i) e h

def noCall : CF := fun _ _ _ => none

/-- What operation j reads does not turn by operation i. -/
def Stable (cf : CF) (is : List I) (e : Env) (h : AH) (j i : Nat) : Prop :=
  ∀ o e1 h1 e2 h2 e3 h3, is[j]? = some o → stateAt cf is j e h = some (e1, h1) → stateAt cf is i e h = some (e2, h2) → stateAt cf is (i + 1) e h = some (e3, h3) →
    (evOp noCall (env e1) h2 o.op).map (·.1) = (evOp noCall (env e1) h3 o.op).map (·.1)

open Classical in
noncomputable def evDraw (cf : CF) (is : List I) (ps : List (Nat × Nat)) (e : Env) (h : AH) : Option (Env × AH) :=
  if ∀ p ∈ ps, Stable cf is e h p.1 p.2 then evR cf is e h else none

def evLoop (step : Env → AH → Option (X × Env × AH)) : Nat → Env → AH → Option (X × Env × AH)
  | 0, _, _ => none
  | n + 1, e, h => match step e h with
    | some (.normal, e', h') => evLoop step n e' h'
    | r => r

noncomputable def evC (cf : CF) (n : Nat) : C → Env → AH → Option (X × Env × AH)
  | .skip, e, h => some (.normal, e, h)
  | .reg is, e, h => (evR cf is e h).map fun (e', h') => (.normal, e', h')
  | .drw is ps, e, h => (evDraw cf is ps e h).map fun (e', h') => (.normal, e', h')
  | .kl ts c, e, h => evC cf n c (e.dels ts) h
  | .seq a b, e, h => match evC cf n a e h with
    | some (.normal, e', h') => evC cf n b e' h'
    | r => r
  | .cond x a b, e, h => match env e x with
    | .bool t => if t then evC cf n a e h else evC cf n b e h
    | _ => none
  | .blk id c, e, h => match evC cf n c e h with
    | some (.exit id', e', h') => if id' = id then some (.normal, e', h') else some (.exit id', e', h')
    | r => r
  | .loop c, e, h => evLoop (evC cf n c) n e h
  | .exit id, e, h => some (.exit id, e, h)
  | .ret, e, h => some (.ret, e, h)
  | .bad, _, _ => none

def res1 (e : Env) (h : AH) : Res → Option AV
  | .tmp t => some (e.get t)
  | .cell agg n t => match e.get t with
    | .ptr c k off m => if n ≤ m then match rdRow h c k off n with
        | some cs => mkv agg cs
        | none => none
      else none
    | _ => none
def resL (e : Env) (h : AH) : List Res → Option (List AV)
  | [] => some []
  | r :: rs => match res1 e h r, resL e h rs with
    | some v, some vs => some (v :: vs)
    | _, _ => none
def resV (e : Env) (h : AH) (rs : List Res) : Option AV :=
  match resL e h rs with
  | some [v] => some v
  | some vs => some (.tup vs)
  | none => none

abbrev Ext := Nat → Option (CF → List AV → AH → Option (AV × AH))

noncomputable def evF (T : Nat → Option FI) (E : Ext) : Nat → CF
  | 0 => fun _ _ _ => none
  | n + 1 => fun f xs h => match E f with
    | some F => F (evF T E n) xs h
    | none => match T f with
      | some fi => match evC (evF T E n) n fi.body (Env.init 0 xs) h with
        | some (.normal, e, h') => (resV e h' fi.res).map (·, h')
        | some (.ret, e, h') => (resV e h' fi.res).map (·, h')
        | _ => none
      | none => none

end Go.Proofs.YtmlmfjjfciiblaaGreatDoor.Ab

/- BODIES of functions as compact literals, written by gen.py. -/
namespace Go.Proofs.YtmlmfjjfciiblaaGreatDoor.Ab
open Go

/-- laws.FnExactNeedlessClues -/
def fi209 : FI := ⟨.seq (.reg [⟨some 1, .box (.t 0), none⟩, ⟨some 2, .mov (.c (.bool false)), none⟩]) (.kl [0, 2] (.seq (.reg [⟨some 3, .mov (.c (.int .i64 1048576)), none⟩]) (.seq (.reg [⟨some 14, .load true 2 (.t 1), none⟩, ⟨some 15, .mov (.t 3), none⟩, ⟨some 16, .call 135 [.t 14, .t 15], none⟩, ⟨some 3, .mov (.t 16), none⟩]) (.kl [14, 15, 16] (.seq (.seq (.reg [⟨some 17, .mov (.t 3), none⟩, ⟨some 18, .bin .lss (.t 17) (.c (.int .i64 0)), none⟩]) (.kl [3, 17] (.cond (.t 18) (.kl [1, 18] (.seq (.reg [⟨some 2, .mov (.c (.bool true)), none⟩]) (.ret))) (.skip)))) (.kl [18] (.seq (.reg [⟨some 20, .load true 2 (.t 1), none⟩, ⟨some 21, .call 136 [.t 20], none⟩, ⟨some 22, .call 210 [.t 21], none⟩, ⟨some 19, .mov (.t 22), none⟩, ⟨some 23, .prj 0 (.t 19), none⟩, ⟨some 24, .prj 1 (.t 19), none⟩, ⟨some 4, .mov (.t 23), none⟩, ⟨some 5, .mov (.t 24), none⟩]) (.kl [19, 20, 21, 22, 23, 24] (.seq (.reg [⟨some 25, .load true 2 (.t 1), none⟩, ⟨some 26, .call 136 [.t 25], none⟩, ⟨some 6, .new [.int .i64 0, .nilS], none⟩, ⟨none, .store 2 (.t 6) (.t 26), none⟩]) (.kl [25, 26] (.seq (.reg [⟨some 28, .load true 2 (.t 6), none⟩, ⟨some 29, .call 211 [.t 28], none⟩, ⟨some 27, .mov (.t 29), none⟩, ⟨some 30, .prj 0 (.t 27), none⟩, ⟨some 31, .prj 1 (.t 27), none⟩, ⟨some 7, .mov (.t 30), none⟩, ⟨some 8, .mov (.t 31), none⟩]) (.kl [27, 28, 29, 30, 31] (.seq (.seq (.reg [⟨some 32, .mov (.t 7), none⟩, ⟨some 33, .mov (.t 4), none⟩, ⟨some 34, .call 155 [.t 32, .t 33], none⟩, ⟨some 35, .un .not (.t 34), none⟩, ⟨some 36, .mov (.t 35), none⟩, ⟨some 37, .mov (.t 8), some (36, false)⟩, ⟨some 38, .mov (.t 5), some (36, false)⟩, ⟨some 39, .beq true (.t 37) (.t 38), some (36, false)⟩, ⟨some 40, .pick (.t 36) (.c (.bool true)) (.t 39), none⟩]) (.kl [32, 33, 34, 35, 36, 37, 38, 39] (.cond (.t 40) (.kl [1, 4, 5, 6, 7, 8, 40] (.seq (.reg [⟨some 2, .mov (.c (.bool false)), none⟩]) (.ret))) (.skip)))) (.kl [40] (.seq (.seq (.drw [⟨some 41, .load true 2 (.t 6), none⟩, ⟨some 42, .load true 2 (.t 1), none⟩, ⟨some 43, .call 136 [.t 42], none⟩, ⟨some 44, .call 139 [.t 41, .t 43], none⟩, ⟨some 45, .un .not (.t 44), none⟩] [(0, 2)]) (.kl [41, 42, 43, 44] (.cond (.t 45) (.kl [1, 4, 5, 6, 7, 8, 45] (.seq (.reg [⟨some 2, .mov (.c (.bool false)), none⟩]) (.ret))) (.skip)))) (.kl [45] (.seq (.reg [⟨some 9, .mov (.c (.int .i64 1)), none⟩]) (.seq (.reg [⟨some 46, .load true 2 (.t 6), none⟩, ⟨some 47, .mov (.t 9), none⟩, ⟨some 48, .call 156 [.t 46, .t 47], none⟩, ⟨some 9, .mov (.t 48), none⟩]) (.kl [6, 46, 47, 48] (.seq (.seq (.reg [⟨some 49, .mov (.t 9), none⟩, ⟨some 50, .bin .lss (.t 49) (.c (.int .i64 0)), none⟩, ⟨some 51, .mov (.t 50), none⟩, ⟨some 52, .mov (.t 7), some (51, false)⟩, ⟨some 53, .mov (.t 4), some (51, false)⟩, ⟨some 54, .call 155 [.t 52, .t 53], some (51, false)⟩, ⟨some 55, .un .not (.t 54), some (51, false)⟩, ⟨some 56, .pick (.t 51) (.c (.bool true)) (.t 55), none⟩, ⟨some 57, .mov (.t 56), none⟩, ⟨some 58, .mov (.t 8), some (57, false)⟩, ⟨some 59, .mov (.t 5), some (57, false)⟩, ⟨some 60, .beq true (.t 58) (.t 59), some (57, false)⟩, ⟨some 61, .pick (.t 57) (.c (.bool true)) (.t 60), none⟩]) (.kl [8, 9, 49, 50, 51, 52, 53, 54, 55, 56, 57, 58, 59, 60] (.cond (.t 61) (.kl [1, 4, 5, 7, 61] (.seq (.reg [⟨some 2, .mov (.c (.bool false)), none⟩]) (.ret))) (.skip)))) (.kl [61] (.seq (.reg [⟨some 10, .mov (.c (.int .i64 1)), none⟩]) (.seq (.reg [⟨some 62, .mov (.t 7), none⟩, ⟨some 63, .mov (.t 10), none⟩, ⟨some 64, .call 157 [.t 62, .t 63], none⟩, ⟨some 10, .mov (.t 64), none⟩]) (.kl [62, 63, 64] (.seq (.reg [⟨some 11, .mov (.c (.int .i64 1)), none⟩]) (.seq (.reg [⟨some 65, .mov (.t 7), none⟩, ⟨some 66, .mov (.t 11), none⟩, ⟨some 67, .call 158 [.t 65, .t 66], none⟩, ⟨some 11, .mov (.t 67), none⟩]) (.kl [65, 66, 67] (.seq (.seq (.reg [⟨some 68, .mov (.t 11), none⟩, ⟨some 69, .bin .lss (.t 68) (.c (.int .i64 0)), none⟩]) (.kl [68] (.cond (.t 69) (.kl [1, 4, 5, 7, 10, 11, 69] (.seq (.reg [⟨some 2, .mov (.c (.bool false)), none⟩]) (.ret))) (.skip)))) (.kl [69] (.seq (.seq (.reg [⟨some 70, .mov (.t 11), none⟩, ⟨some 71, .mov (.t 10), none⟩, ⟨some 72, .bin .neq (.t 70) (.t 71), none⟩]) (.kl [11, 70, 71] (.cond (.t 72) (.kl [1, 4, 5, 7, 10, 72] (.seq (.reg [⟨some 2, .mov (.c (.bool false)), none⟩]) (.ret))) (.skip)))) (.kl [72] (.seq (.reg [⟨some 74, .load true 2 (.t 1), none⟩, ⟨some 75, .call 136 [.t 74], none⟩, ⟨some 76, .call 211 [.t 75], none⟩, ⟨some 73, .mov (.t 76), none⟩, ⟨some 77, .prj 0 (.t 73), none⟩, ⟨some 78, .prj 1 (.t 73), none⟩, ⟨some 12, .mov (.t 77), none⟩, ⟨some 13, .mov (.t 78), none⟩]) (.kl [1, 73, 74, 75, 76, 77, 78] (.seq (.seq (.reg [⟨some 79, .mov (.t 12), none⟩, ⟨some 80, .mov (.t 4), none⟩, ⟨some 81, .call 155 [.t 79, .t 80], none⟩, ⟨some 82, .un .not (.t 81), none⟩, ⟨some 83, .mov (.t 82), none⟩, ⟨some 84, .mov (.t 13), some (83, false)⟩, ⟨some 85, .mov (.t 5), some (83, false)⟩, ⟨some 86, .beq true (.t 84) (.t 85), some (83, false)⟩, ⟨some 87, .pick (.t 83) (.c (.bool true)) (.t 86), none⟩]) (.kl [4, 5, 12, 13, 79, 80, 81, 82, 83, 84, 85, 86] (.cond (.t 87) (.kl [7, 10, 87] (.seq (.reg [⟨some 2, .mov (.c (.bool false)), none⟩]) (.ret))) (.skip)))) (.kl [87] (.seq (.reg [⟨some 11, .mov (.c (.int .i64 1)), none⟩]) (.seq (.reg [⟨some 88, .mov (.t 7), none⟩, ⟨some 89, .mov (.t 11), none⟩, ⟨some 90, .call 158 [.t 88, .t 89], none⟩, ⟨some 11, .mov (.t 90), none⟩]) (.kl [7, 88, 89, 90] (.seq (.seq (.reg [⟨some 91, .mov (.t 11), none⟩, ⟨some 92, .bin .lss (.t 91) (.c (.int .i64 0)), none⟩]) (.kl [91] (.cond (.t 92) (.kl [10, 11, 92] (.seq (.reg [⟨some 2, .mov (.c (.bool false)), none⟩]) (.ret))) (.skip)))) (.kl [92] (.seq (.seq (.reg [⟨some 93, .mov (.t 11), none⟩, ⟨some 94, .mov (.t 10), none⟩, ⟨some 95, .bin .neq (.t 93) (.t 94), none⟩]) (.kl [10, 11, 93, 94] (.cond (.t 95) (.kl [95] (.seq (.reg [⟨some 2, .mov (.c (.bool false)), none⟩]) (.ret))) (.skip)))) (.kl [95] (.seq (.reg [⟨some 2, .mov (.c (.bool true)), none⟩]) (.ret)))))))))))))))))))))))))))))))))))))))))))), [.tmp 2]⟩
/-- laws.FnExactHarderPuzzle -/
def fi212 : FI := ⟨.seq (.reg [⟨some 1, .box (.t 0), none⟩, ⟨some 2, .mov (.c (.bool false)), none⟩]) (.kl [0, 2] (.seq (.reg [⟨some 3, .mov (.c (.int .i64 1048576)), none⟩]) (.seq (.reg [⟨some 14, .load true 2 (.t 1), none⟩, ⟨some 15, .mov (.t 3), none⟩, ⟨some 16, .call 135 [.t 14, .t 15], none⟩, ⟨some 3, .mov (.t 16), none⟩]) (.kl [14, 15, 16] (.seq (.seq (.reg [⟨some 17, .mov (.t 3), none⟩, ⟨some 18, .bin .lss (.t 17) (.c (.int .i64 0)), none⟩]) (.kl [3, 17] (.cond (.t 18) (.kl [1, 18] (.seq (.reg [⟨some 2, .mov (.c (.bool true)), none⟩]) (.ret))) (.skip)))) (.kl [18] (.seq (.reg [⟨some 20, .load true 2 (.t 1), none⟩, ⟨some 21, .call 136 [.t 20], none⟩, ⟨some 22, .call 213 [.t 21], none⟩, ⟨some 19, .mov (.t 22), none⟩, ⟨some 23, .prj 0 (.t 19), none⟩, ⟨some 24, .prj 1 (.t 19), none⟩, ⟨some 4, .new [.int .i64 0, .nilS], none⟩, ⟨none, .store 2 (.t 4) (.t 23), none⟩, ⟨some 5, .mov (.t 24), none⟩]) (.kl [19, 20, 21, 22, 23, 24] (.seq (.reg [⟨some 25, .load true 2 (.t 1), none⟩, ⟨some 26, .call 136 [.t 25], none⟩, ⟨some 6, .new [.int .i64 0, .nilS], none⟩, ⟨none, .store 2 (.t 6) (.t 26), none⟩]) (.kl [25, 26] (.seq (.reg [⟨some 28, .load true 2 (.t 6), none⟩, ⟨some 29, .call 214 [.t 28], none⟩, ⟨some 27, .mov (.t 29), none⟩, ⟨some 30, .prj 0 (.t 27), none⟩, ⟨some 31, .prj 1 (.t 27), none⟩, ⟨some 7, .new [.int .i64 0, .nilS], none⟩, ⟨none, .store 2 (.t 7) (.t 30), none⟩, ⟨some 8, .mov (.t 31), none⟩]) (.kl [27, 28, 29, 30, 31] (.seq (.seq (.reg [⟨some 32, .load true 2 (.t 7), none⟩, ⟨some 33, .load true 2 (.t 4), none⟩, ⟨some 34, .call 139 [.t 32, .t 33], none⟩, ⟨some 35, .un .not (.t 34), none⟩, ⟨some 36, .mov (.t 35), none⟩, ⟨some 37, .mov (.t 8), some (36, false)⟩, ⟨some 38, .mov (.t 5), some (36, false)⟩, ⟨some 39, .beq true (.t 37) (.t 38), some (36, false)⟩, ⟨some 40, .pick (.t 36) (.c (.bool true)) (.t 39), none⟩]) (.kl [32, 33, 34, 35, 36, 37, 38, 39] (.cond (.t 40) (.kl [1, 4, 5, 6, 7, 8, 40] (.seq (.reg [⟨some 2, .mov (.c (.bool false)), none⟩]) (.ret))) (.skip)))) (.kl [40] (.seq (.seq (.drw [⟨some 41, .load true 2 (.t 6), none⟩, ⟨some 42, .load true 2 (.t 1), none⟩, ⟨some 43, .call 136 [.t 42], none⟩, ⟨some 44, .call 139 [.t 41, .t 43], none⟩, ⟨some 45, .un .not (.t 44), none⟩] [(0, 2)]) (.kl [41, 42, 43, 44] (.cond (.t 45) (.kl [1, 4, 5, 6, 7, 8, 45] (.seq (.reg [⟨some 2, .mov (.c (.bool false)), none⟩]) (.ret))) (.skip)))) (.kl [45] (.seq (.reg [⟨some 9, .mov (.c (.int .i64 1)), none⟩]) (.seq (.reg [⟨some 46, .load true 2 (.t 6), none⟩, ⟨some 47, .mov (.t 9), none⟩, ⟨some 48, .call 156 [.t 46, .t 47], none⟩, ⟨some 9, .mov (.t 48), none⟩]) (.kl [6, 46, 47, 48] (.seq (.seq (.reg [⟨some 49, .mov (.t 9), none⟩, ⟨some 50, .bin .lss (.t 49) (.c (.int .i64 0)), none⟩, ⟨some 51, .mov (.t 50), none⟩, ⟨some 52, .load true 2 (.t 7), some (51, false)⟩, ⟨some 53, .load true 2 (.t 4), some (51, false)⟩, ⟨some 54, .call 139 [.t 52, .t 53], some (51, false)⟩, ⟨some 55, .un .not (.t 54), some (51, false)⟩, ⟨some 56, .pick (.t 51) (.c (.bool true)) (.t 55), none⟩, ⟨some 57, .mov (.t 56), none⟩, ⟨some 58, .mov (.t 8), some (57, false)⟩, ⟨some 59, .mov (.t 5), some (57, false)⟩, ⟨some 60, .beq true (.t 58) (.t 59), some (57, false)⟩, ⟨some 61, .pick (.t 57) (.c (.bool true)) (.t 60), none⟩]) (.kl [8, 9, 49, 50, 51, 52, 53, 54, 55, 56, 57, 58, 59, 60] (.cond (.t 61) (.kl [1, 4, 5, 7, 61] (.seq (.reg [⟨some 2, .mov (.c (.bool false)), none⟩]) (.ret))) (.skip)))) (.kl [61] (.seq (.reg [⟨some 10, .mov (.c (.int .i64 1)), none⟩]) (.seq (.reg [⟨some 62, .load true 2 (.t 7), none⟩, ⟨some 63, .mov (.t 10), none⟩, ⟨some 64, .call 156 [.t 62, .t 63], none⟩, ⟨some 10, .mov (.t 64), none⟩]) (.kl [62, 63, 64] (.seq (.reg [⟨some 11, .mov (.c (.int .i64 1)), none⟩]) (.seq (.reg [⟨some 65, .load true 2 (.t 7), none⟩, ⟨some 66, .mov (.t 11), none⟩, ⟨some 67, .call 215 [.t 65, .t 66], none⟩, ⟨some 11, .mov (.t 67), none⟩]) (.kl [65, 66, 67] (.seq (.seq (.reg [⟨some 68, .mov (.t 11), none⟩, ⟨some 69, .bin .lss (.t 68) (.c (.int .i64 0)), none⟩]) (.kl [68] (.cond (.t 69) (.kl [1, 4, 5, 7, 10, 11, 69] (.seq (.reg [⟨some 2, .mov (.c (.bool false)), none⟩]) (.ret))) (.skip)))) (.kl [69] (.seq (.seq (.reg [⟨some 70, .mov (.t 11), none⟩, ⟨some 71, .mov (.t 10), none⟩, ⟨some 72, .bin .neq (.t 70) (.t 71), none⟩]) (.kl [11, 70, 71] (.cond (.t 72) (.kl [1, 4, 5, 7, 10, 72] (.seq (.reg [⟨some 2, .mov (.c (.bool false)), none⟩]) (.ret))) (.skip)))) (.kl [72] (.seq (.reg [⟨some 74, .load true 2 (.t 1), none⟩, ⟨some 75, .call 136 [.t 74], none⟩, ⟨some 76, .call 214 [.t 75], none⟩, ⟨some 73, .mov (.t 76), none⟩, ⟨some 77, .prj 0 (.t 73), none⟩, ⟨some 78, .prj 1 (.t 73), none⟩, ⟨some 12, .new [.int .i64 0, .nilS], none⟩, ⟨none, .store 2 (.t 12) (.t 77), none⟩, ⟨some 13, .mov (.t 78), none⟩]) (.kl [1, 73, 74, 75, 76, 77, 78] (.seq (.seq (.reg [⟨some 79, .load true 2 (.t 12), none⟩, ⟨some 80, .load true 2 (.t 4), none⟩, ⟨some 81, .call 139 [.t 79, .t 80], none⟩, ⟨some 82, .un .not (.t 81), none⟩, ⟨some 83, .mov (.t 82), none⟩, ⟨some 84, .mov (.t 13), some (83, false)⟩, ⟨some 85, .mov (.t 5), some (83, false)⟩, ⟨some 86, .beq true (.t 84) (.t 85), some (83, false)⟩, ⟨some 87, .pick (.t 83) (.c (.bool true)) (.t 86), none⟩]) (.kl [4, 5, 12, 13, 79, 80, 81, 82, 83, 84, 85, 86] (.cond (.t 87) (.kl [7, 10, 87] (.seq (.reg [⟨some 2, .mov (.c (.bool false)), none⟩]) (.ret))) (.skip)))) (.kl [87] (.seq (.reg [⟨some 11, .mov (.c (.int .i64 1)), none⟩]) (.seq (.reg [⟨some 88, .load true 2 (.t 7), none⟩, ⟨some 89, .mov (.t 11), none⟩, ⟨some 90, .call 215 [.t 88, .t 89], none⟩, ⟨some 11, .mov (.t 90), none⟩]) (.kl [7, 88, 89, 90] (.seq (.seq (.reg [⟨some 91, .mov (.t 11), none⟩, ⟨some 92, .bin .lss (.t 91) (.c (.int .i64 0)), none⟩]) (.kl [91] (.cond (.t 92) (.kl [10, 11, 92] (.seq (.reg [⟨some 2, .mov (.c (.bool false)), none⟩]) (.ret))) (.skip)))) (.kl [92] (.seq (.seq (.reg [⟨some 93, .mov (.t 11), none⟩, ⟨some 94, .mov (.t 10), none⟩, ⟨some 95, .bin .neq (.t 93) (.t 94), none⟩]) (.kl [10, 11, 93, 94] (.cond (.t 95) (.kl [95] (.seq (.reg [⟨some 2, .mov (.c (.bool false)), none⟩]) (.ret))) (.skip)))) (.kl [95] (.seq (.reg [⟨some 2, .mov (.c (.bool true)), none⟩]) (.ret)))))))))))))))))))))))))))))))))))))))))))), [.tmp 2]⟩
/-- laws.szPuzzle -/
def fi135 : FI := ⟨.seq (.reg [⟨some 2, .box (.t 0), none⟩, ⟨some 4, .mov (.c (.int .i64 0)), none⟩]) (.kl [0, 4] (.seq (.reg [⟨some 5, .faddr 1 1 (.t 2), none⟩, ⟨some 6, .load false 1 (.t 5), none⟩, ⟨some 7, .mov (.t 1), none⟩, ⟨some 8, .call 159 [.t 6, .t 7], none⟩, ⟨some 1, .mov (.t 8), none⟩]) (.kl [2, 5, 6, 7, 8] (.seq (.seq (.reg [⟨some 9, .mov (.t 1), none⟩, ⟨some 10, .bin .lss (.t 9) (.c (.int .i64 0)), none⟩]) (.kl [9] (.cond (.t 10) (.kl [1, 10] (.seq (.reg [⟨some 4, .mov (.c (.int .i64 (-1))), none⟩]) (.ret))) (.skip)))) (.kl [10] (.seq (.reg [⟨some 11, .mov (.t 1), none⟩, ⟨some 4, .mov (.t 11), none⟩]) (.kl [1, 11] (.ret)))))))), [.tmp 4]⟩
-- lp210_0 HEAD [1, 4, 5, 18, 19] | exit 0: [4]
/-- spec.NeedlessClues -/
def lb210_0 : C := .kl [36] (.seq (.reg [⟨some 20, .bin .lss (.t 19) (.t 18), none⟩]) (.seq (.cond (.t 20) (.skip) (.kl [1, 5, 18, 19, 20] (.exit 0))) (.kl [20] (.seq (.blk 1 (.seq (.reg [⟨some 21, .mov (.t 19), none⟩, ⟨some 6, .mov (.t 21), none⟩]) (.kl [21] (.seq (.drw [⟨some 22, .faddr 0 1 (.t 1), none⟩, ⟨some 23, .load false 1 (.t 22), none⟩, ⟨some 24, .faddr 1 1 (.t 1), none⟩, ⟨some 25, .load false 1 (.t 24), none⟩, ⟨some 26, .mov (.t 6), none⟩, ⟨some 27, .call 216 [.t 25, .t 26], none⟩, ⟨some 28, .call 161 [.t 23, .t 27], none⟩, ⟨some 29, .lenV (.t 28), none⟩, ⟨some 30, .mov (.t 5), none⟩, ⟨some 31, .bin .eql (.t 29) (.t 30), none⟩] [(1, 5)]) (.kl [22, 23, 24, 25, 26, 27, 28, 29, 30] (.cond (.t 31) (.kl [31] (.reg [⟨some 32, .mov (.t 4), none⟩, ⟨some 33, .mov (.t 6), none⟩, ⟨some 34, .lit 1 1 [.int .i64 0] [(0, 1, .t 33)], none⟩, ⟨some 35, .app 1 (.t 32) (.t 34), none⟩, ⟨some 4, .mov (.t 35), none⟩])) (.skip))))))) (.kl [6, 31, 32, 33, 34, 35] (.reg [⟨some 36, .bin .add (.t 19) (.c (.int .i64 1)), none⟩, ⟨some 19, .mov (.t 36), none⟩]))))))
def lp210_0 : C := lb210_0
def fi210 : FI := ⟨.seq (.reg [⟨some 1, .box (.t 0), none⟩, ⟨some 2, .mov (.c (.nilS)), none⟩, ⟨some 3, .mov (.c (.bool false)), none⟩]) (.kl [0, 2, 3] (.seq (.seq (.reg [⟨some 7, .load true 2 (.t 1), none⟩, ⟨some 8, .call 160 [.t 7], none⟩, ⟨some 9, .un .not (.t 8), none⟩]) (.kl [7, 8] (.cond (.t 9) (.kl [1, 9] (.seq (.reg [⟨some 2, .mov (.c (.nilS)), none⟩, ⟨some 3, .mov (.c (.bool false)), none⟩]) (.ret))) (.skip)))) (.kl [9] (.seq (.reg [⟨some 4, .mov (.c (.nilS)), none⟩]) (.seq (.reg [⟨some 10, .faddr 0 1 (.t 1), none⟩, ⟨some 11, .load false 1 (.t 10), none⟩, ⟨some 12, .faddr 1 1 (.t 1), none⟩, ⟨some 13, .load false 1 (.t 12), none⟩, ⟨some 14, .call 161 [.t 11, .t 13], none⟩, ⟨some 15, .lenV (.t 14), none⟩, ⟨some 5, .mov (.t 15), none⟩]) (.kl [10, 11, 12, 13, 14, 15] (.seq (.seq (.reg [⟨some 16, .faddr 1 1 (.t 1), none⟩, ⟨some 17, .load false 1 (.t 16), none⟩, ⟨some 18, .lenV (.t 17), none⟩, ⟨some 19, .mov (.c (.int .i64 0)), none⟩]) (.kl [16, 17] (.blk 0 (.loop lp210_0)))) (.seq (.reg [⟨some 37, .mov (.t 4), none⟩, ⟨some 2, .mov (.t 37), none⟩, ⟨some 3, .mov (.c (.bool true)), none⟩]) (.kl [4, 37] (.ret)))))))))), [.tmp 2, .tmp 3]⟩
/-- laws.toPuzzle -/
def fi136 : FI := ⟨.seq (.reg [⟨some 1, .box (.t 0), none⟩, ⟨some 2, .new [.int .i64 0, .nilS], none⟩]) (.kl [0] (.seq (.reg [⟨some 3, .new [.int .i64 0, .nilS], none⟩]) (.seq (.reg [⟨some 4, .faddr 0 1 (.t 1), none⟩, ⟨some 5, .load false 1 (.t 4), none⟩, ⟨some 6, .faddr 0 1 (.t 3), none⟩, ⟨none, .store 1 (.t 6) (.t 5), none⟩]) (.kl [4, 5, 6] (.seq (.reg [⟨some 7, .faddr 1 1 (.t 1), none⟩, ⟨some 8, .load false 1 (.t 7), none⟩, ⟨some 9, .call 162 [.t 8], none⟩, ⟨some 10, .faddr 1 1 (.t 3), none⟩, ⟨none, .store 1 (.t 10) (.t 9), none⟩]) (.kl [1, 7, 8, 9, 10] (.seq (.reg [⟨some 11, .load true 2 (.t 3), none⟩, ⟨none, .store 2 (.t 2) (.t 11), none⟩]) (.kl [3, 11] (.ret))))))))), [.cell true 2 2]⟩
-- lp211_0 HEAD [1, 4, 6, 18, 19] | exit 0: [6]
/-- impl.NeedlessClues -/
def lb211_0 : C := .kl [36] (.seq (.reg [⟨some 20, .bin .lss (.t 19) (.t 18), none⟩]) (.seq (.cond (.t 20) (.skip) (.kl [1, 4, 18, 19, 20] (.exit 0))) (.kl [20] (.seq (.blk 1 (.seq (.reg [⟨some 21, .mov (.t 19), none⟩, ⟨some 7, .mov (.t 21), none⟩]) (.kl [21] (.seq (.drw [⟨some 22, .faddr 0 1 (.t 1), none⟩, ⟨some 23, .load false 1 (.t 22), none⟩, ⟨some 24, .faddr 1 1 (.t 1), none⟩, ⟨some 25, .load false 1 (.t 24), none⟩, ⟨some 26, .mov (.t 7), none⟩, ⟨some 27, .call 217 [.t 25, .t 26], none⟩, ⟨some 28, .call 167 [.t 23, .t 27], none⟩, ⟨some 29, .lenV (.t 28), none⟩, ⟨some 30, .mov (.t 4), none⟩, ⟨some 31, .bin .eql (.t 29) (.t 30), none⟩] [(1, 5)]) (.kl [22, 23, 24, 25, 26, 27, 28, 29, 30] (.cond (.t 31) (.kl [31] (.reg [⟨some 32, .mov (.t 6), none⟩, ⟨some 33, .mov (.t 7), none⟩, ⟨some 34, .lit 1 1 [.int .i64 0] [(0, 1, .t 33)], none⟩, ⟨some 35, .app 1 (.t 32) (.t 34), none⟩, ⟨some 6, .mov (.t 35), none⟩])) (.skip))))))) (.kl [7, 31, 32, 33, 34, 35] (.reg [⟨some 36, .bin .add (.t 19) (.c (.int .i64 1)), none⟩, ⟨some 19, .mov (.t 36), none⟩]))))))
def lp211_0 : C := lb211_0
def fi211 : FI := ⟨.seq (.reg [⟨some 1, .box (.t 0), none⟩, ⟨some 2, .mov (.c (.nilS)), none⟩, ⟨some 3, .mov (.c (.bool false)), none⟩]) (.kl [0, 2, 3] (.seq (.reg [⟨some 9, .load true 2 (.t 1), none⟩, ⟨some 10, .call 138 [.t 9], none⟩, ⟨some 8, .mov (.t 10), none⟩, ⟨some 11, .prj 0 (.t 8), none⟩, ⟨some 12, .prj 1 (.t 8), none⟩, ⟨some 4, .mov (.t 11), none⟩, ⟨some 5, .mov (.t 12), none⟩]) (.kl [8, 9, 10, 11, 12] (.seq (.seq (.reg [⟨some 13, .mov (.t 5), none⟩, ⟨some 14, .un .not (.t 13), none⟩]) (.kl [5, 13] (.cond (.t 14) (.kl [1, 4, 14] (.seq (.reg [⟨some 2, .mov (.c (.nilS)), none⟩, ⟨some 3, .mov (.c (.bool false)), none⟩]) (.ret))) (.skip)))) (.kl [14] (.seq (.reg [⟨some 15, .lit0, none⟩, ⟨some 6, .mov (.t 15), none⟩]) (.kl [15] (.seq (.seq (.reg [⟨some 16, .faddr 1 1 (.t 1), none⟩, ⟨some 17, .load false 1 (.t 16), none⟩, ⟨some 18, .lenV (.t 17), none⟩, ⟨some 19, .mov (.c (.int .i64 0)), none⟩]) (.kl [16, 17] (.blk 0 (.loop lp211_0)))) (.seq (.reg [⟨some 37, .mov (.t 6), none⟩, ⟨some 2, .mov (.t 37), none⟩, ⟨some 3, .mov (.c (.bool true)), none⟩]) (.kl [6, 37] (.ret))))))))))), [.tmp 2, .tmp 3]⟩
-- lp155_0 HEAD [0, 1, 5] | exit 0: [] | ret: [4]
/-- laws.eqIntS -/
def lb155_0 : C := .kl [15, 16] (.seq (.seq (.reg [⟨some 11, .mov (.t 5), none⟩, ⟨some 12, .mov (.t 0), none⟩, ⟨some 13, .lenV (.t 12), none⟩, ⟨some 14, .bin .lss (.t 11) (.t 13), none⟩]) (.kl [11, 12, 13] (.cond (.t 14) (.skip) (.kl [0, 1, 5, 14] (.exit 0))))) (.kl [14] (.seq (.blk 1 (.seq (.drw [⟨some 17, .mov (.t 0), none⟩, ⟨some 18, .mov (.t 5), none⟩, ⟨some 19, .iaddr 1 (.t 17) (.t 18), none⟩, ⟨some 20, .load false 1 (.t 19), none⟩, ⟨some 21, .mov (.t 1), none⟩, ⟨some 22, .mov (.t 5), none⟩, ⟨some 23, .iaddr 1 (.t 21) (.t 22), none⟩, ⟨some 24, .load false 1 (.t 23), none⟩, ⟨some 25, .bin .neq (.t 20) (.t 24), none⟩] []) (.kl [17, 18, 19, 20, 21, 22, 23, 24] (.cond (.t 25) (.kl [0, 1, 5, 25] (.seq (.reg [⟨some 4, .mov (.c (.bool false)), none⟩]) (.ret))) (.skip))))) (.kl [25] (.reg [⟨some 15, .mov (.t 5), none⟩, ⟨some 16, .bin .add (.t 15) (.c (.int .i64 1)), none⟩, ⟨some 5, .mov (.t 16), none⟩])))))
def lp155_0 : C := lb155_0
def fi155 : FI := ⟨.seq (.reg [⟨some 4, .mov (.c (.bool false)), none⟩]) (.kl [4] (.seq (.seq (.reg [⟨some 6, .mov (.t 0), none⟩, ⟨some 7, .lenV (.t 6), none⟩, ⟨some 8, .mov (.t 1), none⟩, ⟨some 9, .lenV (.t 8), none⟩, ⟨some 10, .bin .neq (.t 7) (.t 9), none⟩]) (.kl [6, 7, 8, 9] (.cond (.t 10) (.kl [0, 1, 10] (.seq (.reg [⟨some 4, .mov (.c (.bool false)), none⟩]) (.ret))) (.skip)))) (.kl [10] (.seq (.seq (.reg [⟨some 5, .mov (.c (.int .i64 0)), none⟩]) (.blk 0 (.loop lp155_0))) (.seq (.reg [⟨some 4, .mov (.c (.bool true)), none⟩]) (.ret)))))), [.tmp 4]⟩
/-- laws.eqPuzzle -/
def fi139 : FI := ⟨.seq (.reg [⟨some 2, .box (.t 0), none⟩, ⟨some 3, .box (.t 1), none⟩, ⟨some 4, .mov (.c (.bool false)), none⟩]) (.kl [0, 1, 4] (.seq (.seq (.reg [⟨some 5, .faddr 0 1 (.t 2), none⟩, ⟨some 6, .load false 1 (.t 5), none⟩, ⟨some 7, .faddr 0 1 (.t 3), none⟩, ⟨some 8, .load false 1 (.t 7), none⟩, ⟨some 9, .bin .neq (.t 6) (.t 8), none⟩]) (.kl [5, 6, 7, 8] (.cond (.t 9) (.kl [2, 3, 9] (.seq (.reg [⟨some 4, .mov (.c (.bool false)), none⟩]) (.ret))) (.skip)))) (.kl [9] (.seq (.seq (.reg [⟨some 10, .faddr 1 1 (.t 2), none⟩, ⟨some 11, .load false 1 (.t 10), none⟩, ⟨some 12, .faddr 1 1 (.t 3), none⟩, ⟨some 13, .load false 1 (.t 12), none⟩, ⟨some 14, .call 164 [.t 11, .t 13], none⟩, ⟨some 15, .un .not (.t 14), none⟩]) (.kl [2, 3, 10, 11, 12, 13, 14] (.cond (.t 15) (.kl [15] (.seq (.reg [⟨some 4, .mov (.c (.bool false)), none⟩]) (.ret))) (.skip)))) (.kl [15] (.seq (.reg [⟨some 4, .mov (.c (.bool true)), none⟩]) (.ret))))))), [.tmp 4]⟩
/-- laws.markPuzzle -/
def fi156 : FI := ⟨.seq (.reg [⟨some 2, .box (.t 0), none⟩, ⟨some 4, .mov (.c (.int .i64 0)), none⟩]) (.kl [0, 4] (.seq (.reg [⟨some 5, .faddr 1 1 (.t 2), none⟩, ⟨some 6, .load false 1 (.t 5), none⟩, ⟨some 7, .mov (.t 1), none⟩, ⟨some 8, .call 170 [.t 6, .t 7], none⟩, ⟨some 1, .mov (.t 8), none⟩]) (.kl [2, 5, 6, 7, 8] (.seq (.reg [⟨some 9, .mov (.t 1), none⟩, ⟨some 4, .mov (.t 9), none⟩]) (.kl [1, 9] (.ret)))))), [.tmp 4]⟩
-- lp157_0 HEAD [0, 1, 5] | exit 0: [1]
/-- laws.markIntS -/
def lb157_0 : C := .kl [10, 11] (.seq (.seq (.reg [⟨some 6, .mov (.t 5), none⟩, ⟨some 7, .mov (.t 0), none⟩, ⟨some 8, .lenV (.t 7), none⟩, ⟨some 9, .bin .lss (.t 6) (.t 8), none⟩]) (.kl [6, 7, 8] (.cond (.t 9) (.skip) (.kl [0, 5, 9] (.exit 0))))) (.kl [9] (.seq (.blk 1 (.seq (.reg [⟨some 12, .mov (.t 0), none⟩, ⟨some 13, .mov (.t 5), none⟩, ⟨some 14, .mov (.t 1), none⟩, ⟨some 15, .iaddr 1 (.t 12) (.t 13), none⟩, ⟨none, .store 1 (.t 15) (.t 14), none⟩]) (.kl [12, 13, 14, 15] (.reg [⟨some 16, .mov (.t 1), none⟩, ⟨some 17, .bin .add (.t 16) (.c (.int .i64 1)), none⟩, ⟨some 1, .mov (.t 17), none⟩])))) (.kl [16, 17] (.reg [⟨some 10, .mov (.t 5), none⟩, ⟨some 11, .bin .add (.t 10) (.c (.int .i64 1)), none⟩, ⟨some 5, .mov (.t 11), none⟩])))))
def lp157_0 : C := lb157_0
def fi157 : FI := ⟨.seq (.reg [⟨some 4, .mov (.c (.int .i64 0)), none⟩]) (.kl [4] (.seq (.seq (.reg [⟨some 5, .mov (.c (.int .i64 0)), none⟩]) (.blk 0 (.loop lp157_0))) (.seq (.reg [⟨some 18, .mov (.t 1), none⟩, ⟨some 4, .mov (.t 18), none⟩]) (.kl [1, 18] (.ret))))), [.tmp 4]⟩
-- lp158_0 HEAD [0, 1, 5] | exit 0: [1] | ret: [4]
/-- laws.heldIntS -/
def lb158_0 : C := .kl [10, 11] (.seq (.seq (.reg [⟨some 6, .mov (.t 5), none⟩, ⟨some 7, .mov (.t 0), none⟩, ⟨some 8, .lenV (.t 7), none⟩, ⟨some 9, .bin .lss (.t 6) (.t 8), none⟩]) (.kl [6, 7, 8] (.cond (.t 9) (.skip) (.kl [0, 5, 9] (.exit 0))))) (.kl [9] (.seq (.blk 1 (.seq (.seq (.reg [⟨some 12, .mov (.t 0), none⟩, ⟨some 13, .mov (.t 5), none⟩, ⟨some 14, .iaddr 1 (.t 12) (.t 13), none⟩, ⟨some 15, .load false 1 (.t 14), none⟩, ⟨some 16, .mov (.t 1), none⟩, ⟨some 17, .bin .neq (.t 15) (.t 16), none⟩]) (.kl [12, 13, 14, 15, 16] (.cond (.t 17) (.kl [0, 1, 5, 17] (.seq (.reg [⟨some 4, .mov (.c (.int .i64 (-1))), none⟩]) (.ret))) (.skip)))) (.kl [17] (.reg [⟨some 18, .mov (.t 1), none⟩, ⟨some 19, .bin .add (.t 18) (.c (.int .i64 1)), none⟩, ⟨some 1, .mov (.t 19), none⟩])))) (.kl [18, 19] (.reg [⟨some 10, .mov (.t 5), none⟩, ⟨some 11, .bin .add (.t 10) (.c (.int .i64 1)), none⟩, ⟨some 5, .mov (.t 11), none⟩])))))
def lp158_0 : C := lb158_0
def fi158 : FI := ⟨.seq (.reg [⟨some 4, .mov (.c (.int .i64 0)), none⟩]) (.kl [4] (.seq (.seq (.reg [⟨some 5, .mov (.c (.int .i64 0)), none⟩]) (.blk 0 (.loop lp158_0))) (.seq (.reg [⟨some 20, .mov (.t 1), none⟩, ⟨some 4, .mov (.t 20), none⟩]) (.kl [1, 20] (.ret))))), [.tmp 4]⟩
-- lp213_0 HEAD [1, 2, 4, 5] | exit 0: [1, 2, 4]
/-- spec.HarderPuzzle -/
def lb213_0 : C := .kl [6, 34, 35, 36] (.seq (.seq (.reg [⟨some 23, .mov (.t 5), none⟩, ⟨some 24, .mov (.t 4), none⟩, ⟨some 25, .lenV (.t 24), none⟩, ⟨some 26, .bin .lss (.t 23) (.t 25), none⟩]) (.kl [23, 24, 25] (.cond (.t 26) (.skip) (.kl [5, 26] (.exit 0))))) (.kl [26] (.blk 1 (.seq (.reg [⟨some 27, .mov (.t 4), none⟩, ⟨some 28, .mov (.t 5), none⟩, ⟨some 29, .call 216 [.t 27, .t 28], none⟩, ⟨some 6, .mov (.t 29), none⟩]) (.kl [27, 28, 29] (.seq (.reg [⟨some 30, .faddr 0 1 (.t 1), none⟩, ⟨some 31, .load false 1 (.t 30), none⟩, ⟨some 32, .mov (.t 6), none⟩, ⟨some 33, .call 165 [.t 31, .t 32], none⟩]) (.kl [30, 31, 32] (.cond (.t 33) (.kl [4, 33] (.reg [⟨some 34, .mov (.t 6), none⟩, ⟨some 4, .mov (.t 34), none⟩])) (.kl [6, 33] (.reg [⟨some 35, .mov (.t 5), none⟩, ⟨some 36, .bin .add (.t 35) (.c (.int .i64 1)), none⟩, ⟨some 5, .mov (.t 36), none⟩]))))))))))
def lp213_0 : C := lb213_0
def fi213 : FI := ⟨.seq (.reg [⟨some 1, .box (.t 0), none⟩, ⟨some 2, .new [.int .i64 0, .nilS], none⟩, ⟨some 3, .mov (.c (.bool false)), none⟩]) (.kl [0, 3] (.seq (.seq (.reg [⟨some 7, .load true 2 (.t 1), none⟩, ⟨some 8, .call 160 [.t 7], none⟩, ⟨some 9, .un .not (.t 8), none⟩, ⟨some 10, .mov (.t 9), none⟩, ⟨some 11, .faddr 0 1 (.t 1), some (10, false)⟩, ⟨some 12, .load false 1 (.t 11), some (10, false)⟩, ⟨some 13, .faddr 1 1 (.t 1), some (10, false)⟩, ⟨some 14, .load false 1 (.t 13), some (10, false)⟩, ⟨some 15, .call 165 [.t 12, .t 14], some (10, false)⟩, ⟨some 16, .un .not (.t 15), some (10, false)⟩, ⟨some 17, .pick (.t 10) (.c (.bool true)) (.t 16), none⟩]) (.kl [7, 8, 9, 10, 11, 12, 13, 14, 15, 16] (.cond (.t 17) (.kl [1, 17] (.seq (.reg [⟨some 18, .build [.int .i64 0, .nilS] [], none⟩, ⟨none, .store 2 (.t 2) (.t 18), none⟩, ⟨some 3, .mov (.c (.bool false)), none⟩]) (.kl [18] (.ret)))) (.skip)))) (.kl [17] (.seq (.reg [⟨some 19, .lit0, none⟩, ⟨some 20, .faddr 1 1 (.t 1), none⟩, ⟨some 21, .load false 1 (.t 20), none⟩, ⟨some 22, .app 3 (.t 19) (.t 21), none⟩, ⟨some 4, .mov (.t 22), none⟩]) (.kl [19, 20, 21, 22] (.seq (.seq (.reg [⟨some 5, .mov (.c (.int .i64 0)), none⟩]) (.blk 0 (.loop lp213_0))) (.seq (.reg [⟨some 37, .faddr 0 1 (.t 1), none⟩, ⟨some 38, .load false 1 (.t 37), none⟩, ⟨some 39, .mov (.t 4), none⟩, ⟨some 40, .build [.int .i64 0, .nilS] [(0, 1, .t 38), (1, 1, .t 39)], none⟩, ⟨none, .store 2 (.t 2) (.t 40), none⟩, ⟨some 3, .mov (.c (.bool true)), none⟩]) (.kl [1, 4, 37, 38, 39, 40] (.ret))))))))), [.cell true 2 2, .tmp 3]⟩
-- lp214_0 HEAD [1, 2, 6, 7] | exit 0: [1, 2, 6]
/-- impl.HarderPuzzle -/
def lb214_0 : C := .kl [8, 33, 34, 35] (.seq (.seq (.reg [⟨some 20, .mov (.t 7), none⟩, ⟨some 21, .mov (.t 6), none⟩, ⟨some 22, .lenV (.t 21), none⟩, ⟨some 23, .bin .lss (.t 20) (.t 22), none⟩]) (.kl [20, 21, 22] (.cond (.t 23) (.skip) (.kl [7, 23] (.exit 0))))) (.kl [23] (.blk 1 (.seq (.reg [⟨some 24, .mov (.t 6), none⟩, ⟨some 25, .mov (.t 7), none⟩, ⟨some 26, .call 217 [.t 24, .t 25], none⟩, ⟨some 8, .mov (.t 26), none⟩]) (.kl [24, 25, 26] (.seq (.reg [⟨some 27, .faddr 0 1 (.t 1), none⟩, ⟨some 28, .load false 1 (.t 27), none⟩, ⟨some 29, .mov (.t 8), none⟩, ⟨some 30, .call 167 [.t 28, .t 29], none⟩, ⟨some 31, .lenV (.t 30), none⟩, ⟨some 32, .bin .eql (.t 31) (.c (.int .i64 1)), none⟩]) (.kl [27, 28, 29, 30, 31] (.cond (.t 32) (.kl [6, 32] (.reg [⟨some 33, .mov (.t 8), none⟩, ⟨some 6, .mov (.t 33), none⟩])) (.kl [8, 32] (.reg [⟨some 34, .mov (.t 7), none⟩, ⟨some 35, .bin .add (.t 34) (.c (.int .i64 1)), none⟩, ⟨some 7, .mov (.t 35), none⟩]))))))))))
def lp214_0 : C := lb214_0
def fi214 : FI := ⟨.seq (.reg [⟨some 1, .box (.t 0), none⟩, ⟨some 2, .new [.int .i64 0, .nilS], none⟩, ⟨some 3, .mov (.c (.bool false)), none⟩]) (.kl [0, 3] (.seq (.seq (.reg [⟨some 10, .load true 2 (.t 1), none⟩, ⟨some 11, .call 142 [.t 10], none⟩, ⟨some 9, .mov (.t 11), none⟩, ⟨some 12, .prj 0 (.t 9), none⟩, ⟨some 13, .prj 1 (.t 9), none⟩, ⟨some 4, .mov (.t 12), none⟩, ⟨some 5, .mov (.t 13), none⟩]) (.kl [5, 9, 10, 11, 12, 13] (.seq (.reg [⟨some 14, .mov (.t 4), none⟩, ⟨some 15, .un .not (.t 14), none⟩]) (.kl [4, 14] (.cond (.t 15) (.kl [1, 15] (.seq (.reg [⟨some 16, .build [.int .i64 0, .nilS] [], none⟩, ⟨none, .store 2 (.t 2) (.t 16), none⟩, ⟨some 3, .mov (.c (.bool false)), none⟩]) (.kl [16] (.ret)))) (.skip)))))) (.kl [15] (.seq (.reg [⟨some 17, .faddr 1 1 (.t 1), none⟩, ⟨some 18, .load false 1 (.t 17), none⟩, ⟨some 19, .call 218 [.t 18], none⟩, ⟨some 6, .mov (.t 19), none⟩]) (.kl [17, 18, 19] (.seq (.seq (.reg [⟨some 7, .mov (.c (.int .i64 0)), none⟩]) (.blk 0 (.loop lp214_0))) (.seq (.reg [⟨some 36, .faddr 0 1 (.t 1), none⟩, ⟨some 37, .load false 1 (.t 36), none⟩, ⟨some 38, .mov (.t 6), none⟩, ⟨some 39, .build [.int .i64 0, .nilS] [(0, 1, .t 37), (1, 1, .t 38)], none⟩, ⟨none, .store 2 (.t 2) (.t 39), none⟩, ⟨some 3, .mov (.c (.bool true)), none⟩]) (.kl [1, 6, 36, 37, 38, 39] (.ret))))))))), [.cell true 2 2, .tmp 3]⟩
/-- laws.heldPuzzle -/
def fi215 : FI := ⟨.seq (.reg [⟨some 2, .box (.t 0), none⟩, ⟨some 4, .mov (.c (.int .i64 0)), none⟩]) (.kl [0, 4] (.seq (.reg [⟨some 5, .faddr 1 1 (.t 2), none⟩, ⟨some 6, .load false 1 (.t 5), none⟩, ⟨some 7, .mov (.t 1), none⟩, ⟨some 8, .call 219 [.t 6, .t 7], none⟩, ⟨some 1, .mov (.t 8), none⟩]) (.kl [2, 5, 6, 7, 8] (.seq (.seq (.reg [⟨some 9, .mov (.t 1), none⟩, ⟨some 10, .bin .lss (.t 9) (.c (.int .i64 0)), none⟩]) (.kl [9] (.cond (.t 10) (.kl [1, 10] (.seq (.reg [⟨some 4, .mov (.c (.int .i64 (-1))), none⟩]) (.ret))) (.skip)))) (.kl [10] (.seq (.reg [⟨some 11, .mov (.t 1), none⟩, ⟨some 4, .mov (.t 11), none⟩]) (.kl [1, 11] (.ret)))))))), [.tmp 4]⟩
/-- laws.szClueS -/
def fi159 : FI := ⟨.seq (.reg [⟨some 4, .mov (.c (.int .i64 0)), none⟩]) (.kl [4] (.seq (.reg [⟨some 5, .mov (.t 1), none⟩, ⟨some 6, .mov (.t 0), none⟩, ⟨some 7, .lenV (.t 6), none⟩, ⟨some 8, .bin .sub (.t 5) (.t 7), none⟩, ⟨some 1, .mov (.t 8), none⟩]) (.kl [0, 5, 6, 7, 8] (.seq (.seq (.reg [⟨some 9, .mov (.t 1), none⟩, ⟨some 10, .bin .lss (.t 9) (.c (.int .i64 0)), none⟩]) (.kl [9] (.cond (.t 10) (.kl [1, 10] (.seq (.reg [⟨some 4, .mov (.c (.int .i64 (-1))), none⟩]) (.ret))) (.skip)))) (.kl [10] (.seq (.reg [⟨some 11, .mov (.t 1), none⟩, ⟨some 4, .mov (.t 11), none⟩]) (.kl [1, 11] (.ret)))))))), [.tmp 4]⟩
-- lp160_0 HEAD [1, 16, 17, 18] | exit 0: [] | ret: [2]
/-- spec.pzGood -/
def lb160_0 : C := .kl [27] (.seq (.reg [⟨some 19, .bin .lss (.t 18) (.t 17), none⟩]) (.seq (.cond (.t 19) (.skip) (.kl [1, 16, 17, 18, 19] (.exit 0))) (.kl [19] (.seq (.blk 1 (.seq (.reg [⟨some 20, .iaddr 3 (.t 16) (.t 18), none⟩, ⟨some 21, .load true 3 (.t 20), none⟩, ⟨some 4, .new [.int .i64 0, .int .i64 0, .int .i64 0], none⟩, ⟨none, .store 3 (.t 4) (.t 21), none⟩]) (.kl [20, 21] (.seq (.reg [⟨some 22, .faddr 0 1 (.t 1), none⟩, ⟨some 23, .load false 1 (.t 22), none⟩, ⟨some 24, .load true 3 (.t 4), none⟩, ⟨some 25, .call 172 [.t 23, .t 24], none⟩, ⟨some 26, .un .not (.t 25), none⟩]) (.kl [4, 22, 23, 24, 25] (.cond (.t 26) (.kl [1, 16, 17, 18, 26] (.seq (.reg [⟨some 2, .mov (.c (.bool false)), none⟩]) (.ret))) (.skip))))))) (.kl [26] (.reg [⟨some 27, .bin .add (.t 18) (.c (.int .i64 1)), none⟩, ⟨some 18, .mov (.t 27), none⟩]))))))
def lp160_0 : C := lb160_0
def fi160 : FI := ⟨.seq (.reg [⟨some 1, .box (.t 0), none⟩, ⟨some 2, .mov (.c (.bool false)), none⟩]) (.kl [0, 2] (.seq (.seq (.reg [⟨some 5, .faddr 0 1 (.t 1), none⟩, ⟨some 6, .load false 1 (.t 5), none⟩, ⟨some 7, .call 171 [.t 6], none⟩, ⟨some 8, .un .not (.t 7), none⟩, ⟨some 9, .mov (.t 8), none⟩, ⟨some 10, .faddr 1 1 (.t 1), some (9, false)⟩, ⟨some 11, .load false 1 (.t 10), some (9, false)⟩, ⟨some 12, .lenV (.t 11), some (9, false)⟩, ⟨some 13, .bin .gtr (.t 12) (.c (.int .i64 6)), some (9, false)⟩, ⟨some 14, .pick (.t 9) (.c (.bool true)) (.t 13), none⟩]) (.kl [5, 6, 7, 8, 9, 10, 11, 12, 13] (.cond (.t 14) (.kl [1, 14] (.seq (.reg [⟨some 2, .mov (.c (.bool false)), none⟩]) (.ret))) (.skip)))) (.kl [14] (.seq (.seq (.reg [⟨some 15, .faddr 1 1 (.t 1), none⟩, ⟨some 16, .load false 1 (.t 15), none⟩, ⟨some 17, .lenV (.t 16), none⟩, ⟨some 18, .mov (.c (.int .i64 0)), none⟩]) (.kl [15] (.blk 0 (.loop lp160_0)))) (.seq (.reg [⟨some 2, .mov (.c (.bool true)), none⟩]) (.ret)))))), [.tmp 2]⟩
/-- spec.pzAll -/
def fi161 : FI := ⟨.seq (.reg [⟨some 4, .mov (.c (.nilS)), none⟩]) (.kl [4] (.seq (.reg [⟨some 5, .new [.nilS], none⟩]) (.seq (.reg [⟨some 6, .mov (.t 0), none⟩, ⟨some 7, .mov (.t 1), none⟩, ⟨some 8, .call 173 [.t 6, .t 7, .c (.str []), .t 5], none⟩]) (.kl [0, 1, 6, 7, 8] (.seq (.reg [⟨some 9, .load false 1 (.t 5), none⟩, ⟨some 4, .mov (.t 9), none⟩]) (.kl [5, 9] (.ret))))))), [.tmp 4]⟩
/-- spec.pzWithout -/
def fi216 : FI := ⟨.seq (.reg [⟨some 4, .mov (.c (.nilS)), none⟩]) (.kl [4] (.seq (.drw [⟨some 5, .lit0, none⟩, ⟨some 6, .mov (.t 0), none⟩, ⟨some 7, .mov (.t 1), none⟩, ⟨some 8, .sub 3 (.t 6) none (some (.t 7)), none⟩, ⟨some 9, .app 3 (.t 5) (.t 8), none⟩, ⟨some 10, .mov (.t 0), none⟩, ⟨some 11, .mov (.t 1), none⟩, ⟨some 12, .bin .add (.t 11) (.c (.int .i64 1)), none⟩, ⟨some 13, .sub 3 (.t 10) (some (.t 12)) none, none⟩, ⟨some 14, .app 3 (.t 9) (.t 13), none⟩, ⟨some 4, .mov (.t 14), none⟩] []) (.kl [0, 1, 5, 6, 7, 8, 9, 10, 11, 12, 13, 14] (.ret)))), [.tmp 4]⟩
-- lp162_0 HEAD [0, 3, 4] | exit 0: [3]
/-- laws.toClueS -/
def lb162_0 : C := .kl [12, 13] (.seq (.seq (.reg [⟨some 8, .mov (.t 4), none⟩, ⟨some 9, .mov (.t 0), none⟩, ⟨some 10, .lenV (.t 9), none⟩, ⟨some 11, .bin .lss (.t 8) (.t 10), none⟩]) (.kl [8, 9, 10] (.cond (.t 11) (.skip) (.kl [0, 4, 11] (.exit 0))))) (.kl [11] (.seq (.blk 1 (.reg [⟨some 14, .mov (.t 3), none⟩, ⟨some 15, .mov (.t 4), none⟩, ⟨some 16, .mov (.t 0), none⟩, ⟨some 17, .mov (.t 4), none⟩, ⟨some 18, .iaddr 3 (.t 16) (.t 17), none⟩, ⟨some 19, .load true 3 (.t 18), none⟩, ⟨some 20, .call 174 [.t 19], none⟩, ⟨some 21, .iaddr 3 (.t 14) (.t 15), none⟩, ⟨none, .store 3 (.t 21) (.t 20), none⟩])) (.kl [14, 15, 16, 17, 18, 19, 20, 21] (.reg [⟨some 12, .mov (.t 4), none⟩, ⟨some 13, .bin .add (.t 12) (.c (.int .i64 1)), none⟩, ⟨some 4, .mov (.t 13), none⟩])))))
def lp162_0 : C := lb162_0
def fi162 : FI := ⟨.seq (.reg [⟨some 2, .mov (.c (.nilS)), none⟩]) (.kl [2] (.seq (.reg [⟨some 5, .mov (.t 0), none⟩, ⟨some 6, .lenV (.t 5), none⟩, ⟨some 7, .make 3 [.int .i64 0, .int .i64 0, .int .i64 0] (.t 6) (.t 6), none⟩, ⟨some 3, .mov (.t 7), none⟩]) (.kl [5, 6, 7] (.seq (.seq (.reg [⟨some 4, .mov (.c (.int .i64 0)), none⟩]) (.blk 0 (.loop lp162_0))) (.seq (.reg [⟨some 22, .mov (.t 3), none⟩, ⟨some 2, .mov (.t 22), none⟩]) (.kl [3, 22] (.ret))))))), [.tmp 2]⟩
/-- impl.CountSolutions -/
def fi138 : FI := ⟨.seq (.reg [⟨some 1, .box (.t 0), none⟩, ⟨some 2, .mov (.c (.int .i64 0)), none⟩, ⟨some 3, .mov (.c (.bool false)), none⟩]) (.kl [0, 2, 3] (.seq (.reg [⟨some 7, .load true 2 (.t 1), none⟩, ⟨some 8, .call 163 [.t 7], none⟩, ⟨some 6, .mov (.t 8), none⟩, ⟨some 9, .prj 0 (.t 6), none⟩, ⟨some 10, .prj 1 (.t 6), none⟩, ⟨some 4, .mov (.t 9), none⟩, ⟨some 5, .mov (.t 10), none⟩]) (.kl [1, 6, 7, 8, 9, 10] (.seq (.reg [⟨some 11, .mov (.t 4), none⟩, ⟨some 12, .lenV (.t 11), none⟩, ⟨some 13, .mov (.t 5), none⟩, ⟨some 2, .mov (.t 12), none⟩, ⟨some 3, .mov (.t 13), none⟩]) (.kl [4, 5, 11, 12, 13] (.ret)))))), [.tmp 2, .tmp 3]⟩
-- lp167_0 HEAD [5, 10, 11, 12] | exit 0: [5]
/-- impl.solve -/
def lb167_0 : C := .kl [19] (.seq (.reg [⟨some 13, .bin .lss (.t 12) (.t 11), none⟩]) (.seq (.cond (.t 13) (.skip) (.kl [10, 11, 12, 13] (.exit 0))) (.kl [13] (.seq (.blk 1 (.seq (.reg [⟨some 14, .iaddr 3 (.t 10) (.t 12), none⟩, ⟨some 15, .load true 3 (.t 14), none⟩, ⟨some 7, .new [.int .i64 0, .int .i64 0, .int .i64 0], none⟩, ⟨none, .store 3 (.t 7) (.t 15), none⟩]) (.kl [14, 15] (.reg [⟨some 16, .mov (.t 5), none⟩, ⟨some 17, .mkfn 179 [.t 7], none⟩, ⟨some 18, .call 180 [.t 16, .t 17], none⟩, ⟨some 5, .mov (.t 18), none⟩])))) (.kl [7, 16, 17, 18] (.reg [⟨some 19, .bin .add (.t 12) (.c (.int .i64 1)), none⟩, ⟨some 12, .mov (.t 19), none⟩]))))))
def lp167_0 : C := lb167_0
def fi167 : FI := ⟨.seq (.reg [⟨some 4, .mov (.c (.nilS)), none⟩]) (.kl [4] (.seq (.reg [⟨some 8, .mov (.t 0), none⟩, ⟨some 9, .call 178 [.t 8], none⟩, ⟨some 5, .mov (.t 9), none⟩]) (.kl [0, 8, 9] (.seq (.seq (.reg [⟨some 10, .mov (.t 1), none⟩, ⟨some 11, .lenV (.t 10), none⟩, ⟨some 12, .mov (.c (.int .i64 0)), none⟩]) (.kl [1] (.blk 0 (.loop lp167_0)))) (.seq (.reg [⟨some 20, .mov (.t 5), none⟩, ⟨some 4, .mov (.t 20), none⟩]) (.kl [5, 20] (.ret))))))), [.tmp 4]⟩
/-- impl.without -/
def fi217 : FI := ⟨.seq (.reg [⟨some 4, .mov (.c (.nilS)), none⟩]) (.kl [4] (.seq (.reg [⟨some 5, .mov (.t 0), none⟩, ⟨some 6, .call 218 [.t 5], none⟩, ⟨some 7, .mov (.t 1), none⟩, ⟨some 8, .mov (.t 1), none⟩, ⟨some 9, .bin .add (.t 8) (.c (.int .i64 1)), none⟩, ⟨some 10, .call 220 [.t 6, .t 7, .t 9], none⟩, ⟨some 4, .mov (.t 10), none⟩]) (.kl [0, 1, 5, 6, 7, 8, 9, 10] (.ret)))), [.tmp 4]⟩
-- lp164_0 HEAD [0, 1, 5] | exit 0: [] | ret: [4]
/-- laws.eqClueS -/
def lb164_0 : C := .kl [15, 16] (.seq (.seq (.reg [⟨some 11, .mov (.t 5), none⟩, ⟨some 12, .mov (.t 0), none⟩, ⟨some 13, .lenV (.t 12), none⟩, ⟨some 14, .bin .lss (.t 11) (.t 13), none⟩]) (.kl [11, 12, 13] (.cond (.t 14) (.skip) (.kl [0, 1, 5, 14] (.exit 0))))) (.kl [14] (.seq (.blk 1 (.seq (.drw [⟨some 17, .mov (.t 0), none⟩, ⟨some 18, .mov (.t 5), none⟩, ⟨some 19, .iaddr 3 (.t 17) (.t 18), none⟩, ⟨some 20, .load true 3 (.t 19), none⟩, ⟨some 21, .mov (.t 1), none⟩, ⟨some 22, .mov (.t 5), none⟩, ⟨some 23, .iaddr 3 (.t 21) (.t 22), none⟩, ⟨some 24, .load true 3 (.t 23), none⟩, ⟨some 25, .call 175 [.t 20, .t 24], none⟩, ⟨some 26, .un .not (.t 25), none⟩] []) (.kl [17, 18, 19, 20, 21, 22, 23, 24, 25] (.cond (.t 26) (.kl [0, 1, 5, 26] (.seq (.reg [⟨some 4, .mov (.c (.bool false)), none⟩]) (.ret))) (.skip))))) (.kl [26] (.reg [⟨some 15, .mov (.t 5), none⟩, ⟨some 16, .bin .add (.t 15) (.c (.int .i64 1)), none⟩, ⟨some 5, .mov (.t 16), none⟩])))))
def lp164_0 : C := lb164_0
def fi164 : FI := ⟨.seq (.reg [⟨some 4, .mov (.c (.bool false)), none⟩]) (.kl [4] (.seq (.seq (.reg [⟨some 6, .mov (.t 0), none⟩, ⟨some 7, .lenV (.t 6), none⟩, ⟨some 8, .mov (.t 1), none⟩, ⟨some 9, .lenV (.t 8), none⟩, ⟨some 10, .bin .neq (.t 7) (.t 9), none⟩]) (.kl [6, 7, 8, 9] (.cond (.t 10) (.kl [0, 1, 10] (.seq (.reg [⟨some 4, .mov (.c (.bool false)), none⟩]) (.ret))) (.skip)))) (.kl [10] (.seq (.seq (.reg [⟨some 5, .mov (.c (.int .i64 0)), none⟩]) (.blk 0 (.loop lp164_0))) (.seq (.reg [⟨some 4, .mov (.c (.bool true)), none⟩]) (.ret)))))), [.tmp 4]⟩
-- lp170_0 HEAD [0, 1, 5] | exit 0: [1]
/-- laws.markClueS -/
def lb170_0 : C := .kl [10, 11] (.seq (.seq (.reg [⟨some 6, .mov (.t 5), none⟩, ⟨some 7, .mov (.t 0), none⟩, ⟨some 8, .lenV (.t 7), none⟩, ⟨some 9, .bin .lss (.t 6) (.t 8), none⟩]) (.kl [6, 7, 8] (.cond (.t 9) (.skip) (.kl [0, 5, 9] (.exit 0))))) (.kl [9] (.seq (.blk 1 (.seq (.reg [⟨some 12, .mov (.t 0), none⟩, ⟨some 13, .mov (.t 5), none⟩, ⟨some 14, .mov (.t 1), none⟩, ⟨some 15, .iaddr 3 (.t 12) (.t 13), none⟩, ⟨some 16, .faddr 0 1 (.t 15), none⟩, ⟨none, .store 1 (.t 16) (.t 14), none⟩]) (.kl [12, 13, 14, 15, 16] (.seq (.reg [⟨some 17, .mov (.t 1), none⟩, ⟨some 18, .bin .add (.t 17) (.c (.int .i64 1)), none⟩, ⟨some 1, .mov (.t 18), none⟩]) (.kl [17, 18] (.seq (.reg [⟨some 19, .mov (.t 0), none⟩, ⟨some 20, .mov (.t 5), none⟩, ⟨some 21, .mov (.t 1), none⟩, ⟨some 22, .iaddr 3 (.t 19) (.t 20), none⟩, ⟨some 23, .faddr 1 1 (.t 22), none⟩, ⟨none, .store 1 (.t 23) (.t 21), none⟩]) (.kl [19, 20, 21, 22, 23] (.seq (.reg [⟨some 24, .mov (.t 1), none⟩, ⟨some 25, .bin .add (.t 24) (.c (.int .i64 1)), none⟩, ⟨some 1, .mov (.t 25), none⟩]) (.kl [24, 25] (.seq (.reg [⟨some 26, .mov (.t 0), none⟩, ⟨some 27, .mov (.t 5), none⟩, ⟨some 28, .mov (.t 1), none⟩, ⟨some 29, .iaddr 3 (.t 26) (.t 27), none⟩, ⟨some 30, .faddr 2 1 (.t 29), none⟩, ⟨none, .store 1 (.t 30) (.t 28), none⟩]) (.kl [26, 27, 28, 29, 30] (.reg [⟨some 31, .mov (.t 1), none⟩, ⟨some 32, .bin .add (.t 31) (.c (.int .i64 1)), none⟩, ⟨some 1, .mov (.t 32), none⟩])))))))))))) (.kl [31, 32] (.reg [⟨some 10, .mov (.t 5), none⟩, ⟨some 11, .bin .add (.t 10) (.c (.int .i64 1)), none⟩, ⟨some 5, .mov (.t 11), none⟩])))))
def lp170_0 : C := lb170_0
def fi170 : FI := ⟨.seq (.reg [⟨some 4, .mov (.c (.int .i64 0)), none⟩]) (.kl [4] (.seq (.seq (.reg [⟨some 5, .mov (.c (.int .i64 0)), none⟩]) (.blk 0 (.loop lp170_0))) (.seq (.reg [⟨some 33, .mov (.t 1), none⟩, ⟨some 4, .mov (.t 33), none⟩]) (.kl [1, 33] (.ret))))), [.tmp 4]⟩
/-- spec.pzSolved -/
def fi165 : FI := ⟨.seq (.reg [⟨some 4, .mov (.c (.bool false)), none⟩]) (.kl [4] (.seq (.reg [⟨some 5, .mov (.t 0), none⟩, ⟨some 6, .mov (.t 1), none⟩, ⟨some 7, .call 161 [.t 5, .t 6], none⟩, ⟨some 8, .lenV (.t 7), none⟩, ⟨some 9, .bin .eql (.t 8) (.c (.int .i64 1)), none⟩, ⟨some 4, .mov (.t 9), none⟩]) (.kl [0, 1, 5, 6, 7, 8, 9] (.ret)))), [.tmp 4]⟩
/-- impl.IsSolved -/
def fi142 : FI := ⟨.seq (.reg [⟨some 1, .box (.t 0), none⟩, ⟨some 2, .mov (.c (.bool false)), none⟩, ⟨some 3, .mov (.c (.bool false)), none⟩]) (.kl [0, 2, 3] (.seq (.reg [⟨some 7, .load true 2 (.t 1), none⟩, ⟨some 8, .call 138 [.t 7], none⟩, ⟨some 6, .mov (.t 8), none⟩, ⟨some 9, .prj 0 (.t 6), none⟩, ⟨some 10, .prj 1 (.t 6), none⟩, ⟨some 4, .mov (.t 9), none⟩, ⟨some 5, .mov (.t 10), none⟩]) (.kl [1, 6, 7, 8, 9, 10] (.seq (.reg [⟨some 11, .mov (.t 4), none⟩, ⟨some 12, .bin .eql (.t 11) (.c (.int .i64 1)), none⟩, ⟨some 13, .mov (.t 5), none⟩, ⟨some 2, .mov (.t 12), none⟩, ⟨some 3, .mov (.t 13), none⟩]) (.kl [4, 5, 11, 12, 13] (.ret)))))), [.tmp 2, .tmp 3]⟩
/-- slices.Clone[[]impl.Clue,impl.Clue] -/
def fi218 : FI := ⟨.seq (.reg [⟨some 2, .mov (.c (.nilS)), none⟩]) (.kl [2] (.seq (.seq (.reg [⟨some 3, .mov (.t 0), none⟩, ⟨some 4, .niq false 0 (.t 3), none⟩]) (.kl [3] (.cond (.t 4) (.kl [0, 4] (.seq (.reg [⟨some 2, .mov (.c (.nilS)), none⟩]) (.ret))) (.skip)))) (.kl [4] (.seq (.reg [⟨some 5, .lit0, none⟩, ⟨some 6, .mov (.t 0), none⟩, ⟨some 7, .app 3 (.t 5) (.t 6), none⟩, ⟨some 2, .mov (.t 7), none⟩]) (.kl [0, 5, 6, 7] (.ret)))))), [.tmp 2]⟩
-- lp219_0 HEAD [0, 1, 5] | exit 0: [1] | ret: [4]
/-- laws.heldClueS -/
def lb219_0 : C := .kl [10, 11] (.seq (.seq (.reg [⟨some 6, .mov (.t 5), none⟩, ⟨some 7, .mov (.t 0), none⟩, ⟨some 8, .lenV (.t 7), none⟩, ⟨some 9, .bin .lss (.t 6) (.t 8), none⟩]) (.kl [6, 7, 8] (.cond (.t 9) (.skip) (.kl [0, 5, 9] (.exit 0))))) (.kl [9] (.seq (.blk 1 (.seq (.seq (.reg [⟨some 12, .mov (.t 0), none⟩, ⟨some 13, .mov (.t 5), none⟩, ⟨some 14, .iaddr 3 (.t 12) (.t 13), none⟩, ⟨some 15, .faddr 0 1 (.t 14), none⟩, ⟨some 16, .load false 1 (.t 15), none⟩, ⟨some 17, .mov (.t 1), none⟩, ⟨some 18, .bin .neq (.t 16) (.t 17), none⟩]) (.kl [12, 13, 14, 15, 16, 17] (.cond (.t 18) (.kl [0, 1, 5, 18] (.seq (.reg [⟨some 4, .mov (.c (.int .i64 (-1))), none⟩]) (.ret))) (.skip)))) (.kl [18] (.seq (.reg [⟨some 19, .mov (.t 1), none⟩, ⟨some 20, .bin .add (.t 19) (.c (.int .i64 1)), none⟩, ⟨some 1, .mov (.t 20), none⟩]) (.kl [19, 20] (.seq (.seq (.reg [⟨some 21, .mov (.t 0), none⟩, ⟨some 22, .mov (.t 5), none⟩, ⟨some 23, .iaddr 3 (.t 21) (.t 22), none⟩, ⟨some 24, .faddr 1 1 (.t 23), none⟩, ⟨some 25, .load false 1 (.t 24), none⟩, ⟨some 26, .mov (.t 1), none⟩, ⟨some 27, .bin .neq (.t 25) (.t 26), none⟩]) (.kl [21, 22, 23, 24, 25, 26] (.cond (.t 27) (.kl [0, 1, 5, 27] (.seq (.reg [⟨some 4, .mov (.c (.int .i64 (-1))), none⟩]) (.ret))) (.skip)))) (.kl [27] (.seq (.reg [⟨some 28, .mov (.t 1), none⟩, ⟨some 29, .bin .add (.t 28) (.c (.int .i64 1)), none⟩, ⟨some 1, .mov (.t 29), none⟩]) (.kl [28, 29] (.seq (.seq (.reg [⟨some 30, .mov (.t 0), none⟩, ⟨some 31, .mov (.t 5), none⟩, ⟨some 32, .iaddr 3 (.t 30) (.t 31), none⟩, ⟨some 33, .faddr 2 1 (.t 32), none⟩, ⟨some 34, .load false 1 (.t 33), none⟩, ⟨some 35, .mov (.t 1), none⟩, ⟨some 36, .bin .neq (.t 34) (.t 35), none⟩]) (.kl [30, 31, 32, 33, 34, 35] (.cond (.t 36) (.kl [0, 1, 5, 36] (.seq (.reg [⟨some 4, .mov (.c (.int .i64 (-1))), none⟩]) (.ret))) (.skip)))) (.kl [36] (.reg [⟨some 37, .mov (.t 1), none⟩, ⟨some 38, .bin .add (.t 37) (.c (.int .i64 1)), none⟩, ⟨some 1, .mov (.t 38), none⟩])))))))))))) (.kl [37, 38] (.reg [⟨some 10, .mov (.t 5), none⟩, ⟨some 11, .bin .add (.t 10) (.c (.int .i64 1)), none⟩, ⟨some 5, .mov (.t 11), none⟩])))))
def lp219_0 : C := lb219_0
def fi219 : FI := ⟨.seq (.reg [⟨some 4, .mov (.c (.int .i64 0)), none⟩]) (.kl [4] (.seq (.seq (.reg [⟨some 5, .mov (.c (.int .i64 0)), none⟩]) (.blk 0 (.loop lp219_0))) (.seq (.reg [⟨some 39, .mov (.t 1), none⟩, ⟨some 4, .mov (.t 39), none⟩]) (.kl [1, 39] (.ret))))), [.tmp 4]⟩
/-- spec.pzCells -/
def fi171 : FI := ⟨.seq (.reg [⟨some 2, .mov (.c (.bool false)), none⟩]) (.kl [2] (.seq (.reg [⟨some 3, .mov (.t 0), none⟩, ⟨some 4, .call 77 [.t 3, .c (.int .i64 1), .c (.int .i64 5)], none⟩, ⟨some 2, .mov (.t 4), none⟩]) (.kl [0, 3, 4] (.ret)))), [.tmp 2]⟩
/-- spec.pzClue -/
def fi172 : FI := ⟨.seq (.reg [⟨some 3, .box (.t 1), none⟩, ⟨some 4, .mov (.c (.bool false)), none⟩]) (.kl [1, 4] (.seq (.seq (.reg [⟨some 5, .faddr 0 1 (.t 3), none⟩, ⟨some 6, .load false 1 (.t 5), none⟩, ⟨some 7, .bin .eql (.t 6) (.c (.int .i64 0)), none⟩]) (.kl [5, 6] (.cond (.t 7) (.kl [7] (.seq (.reg [⟨some 8, .faddr 1 1 (.t 3), none⟩, ⟨some 9, .load false 1 (.t 8), none⟩, ⟨some 10, .mov (.t 0), none⟩, ⟨some 11, .bin .sub (.t 10) (.c (.int .i64 1)), none⟩, ⟨some 12, .call 77 [.t 9, .c (.int .i64 0), .t 11], none⟩, ⟨some 13, .mov (.t 12), none⟩, ⟨some 14, .faddr 2 1 (.t 3), some (13, true)⟩, ⟨some 15, .load false 1 (.t 14), some (13, true)⟩, ⟨some 16, .call 77 [.t 15, .c (.int .i64 0), .c (.int .i64 2)], some (13, true)⟩, ⟨some 17, .pick (.t 13) (.t 16) (.c (.bool false)), none⟩, ⟨some 4, .mov (.t 17), none⟩]) (.kl [0, 3, 8, 9, 10, 11, 12, 13, 14, 15, 16, 17] (.ret)))) (.skip)))) (.kl [7] (.seq (.seq (.reg [⟨some 18, .faddr 2 1 (.t 3), none⟩, ⟨some 19, .load false 1 (.t 18), none⟩, ⟨some 20, .bin .neq (.t 19) (.c (.int .i64 0)), none⟩]) (.kl [18, 19] (.cond (.t 20) (.kl [0, 3, 20] (.seq (.reg [⟨some 4, .mov (.c (.bool false)), none⟩]) (.ret))) (.skip)))) (.kl [20] (.seq (.seq (.reg [⟨some 21, .faddr 0 1 (.t 3), none⟩, ⟨some 22, .load false 1 (.t 21), none⟩]) (.kl [21] (.blk 0 (.seq (.seq (.reg [⟨some 24, .bin .eql (.t 22) (.c (.int .i64 1)), none⟩, ⟨some 23, .mov (.t 24), none⟩]) (.kl [24] (.cond (.t 23) (.skip) (.kl [23] (.reg [⟨some 25, .bin .eql (.t 22) (.c (.int .i64 2)), none⟩, ⟨some 23, .mov (.t 25), none⟩]))))) (.kl [25] (.cond (.t 23) (.kl [22, 23] (.seq (.reg [⟨some 26, .faddr 1 1 (.t 3), none⟩, ⟨some 27, .load false 1 (.t 26), none⟩, ⟨some 28, .mov (.t 0), none⟩, ⟨some 29, .call 77 [.t 27, .c (.int .i64 0), .t 28], none⟩, ⟨some 4, .mov (.t 29), none⟩]) (.kl [0, 3, 26, 27, 28, 29] (.ret)))) (.kl [23] (.seq (.reg [⟨some 31, .bin .eql (.t 22) (.c (.int .i64 3)), none⟩, ⟨some 30, .mov (.t 31), none⟩]) (.kl [31] (.cond (.t 30) (.kl [22, 30] (.seq (.reg [⟨some 32, .faddr 1 1 (.t 3), none⟩, ⟨some 33, .load false 1 (.t 32), none⟩, ⟨some 34, .mov (.t 0), none⟩, ⟨some 35, .bin .mul (.c (.int .i64 2)) (.t 34), none⟩, ⟨some 36, .call 77 [.t 33, .c (.int .i64 0), .t 35], none⟩, ⟨some 4, .mov (.t 36), none⟩]) (.kl [0, 3, 32, 33, 34, 35, 36] (.ret)))) (.kl [0, 30] (.seq (.reg [⟨some 38, .bin .eql (.t 22) (.c (.int .i64 4)), none⟩, ⟨some 37, .mov (.t 38), none⟩]) (.kl [38] (.cond (.t 37) (.kl [22, 37] (.seq (.reg [⟨some 39, .faddr 1 1 (.t 3), none⟩, ⟨some 40, .load false 1 (.t 39), none⟩, ⟨some 41, .call 77 [.t 40, .c (.int .i64 0), .c (.int .i64 10)], none⟩, ⟨some 4, .mov (.t 41), none⟩]) (.kl [3, 39, 40, 41] (.ret)))) (.kl [37] (.seq (.reg [⟨some 43, .bin .eql (.t 22) (.c (.int .i64 5)), none⟩, ⟨some 42, .mov (.t 43), none⟩]) (.kl [22, 43] (.cond (.t 42) (.kl [42] (.seq (.reg [⟨some 44, .faddr 1 1 (.t 3), none⟩, ⟨some 45, .load false 1 (.t 44), none⟩, ⟨some 46, .call 77 [.t 45, .c (.int .i64 0), .c (.int .i64 3)], none⟩, ⟨some 4, .mov (.t 46), none⟩]) (.kl [3, 44, 45, 46] (.ret)))) (.skip))))))))))))))))))) (.kl [3, 42] (.seq (.reg [⟨some 4, .mov (.c (.bool false)), none⟩]) (.ret))))))))), [.tmp 4]⟩
-- lp173_0 HEAD [2, 3, 16, 17, 18] | exit 0: [2, 3] | ret: []
-- lp173_1 HEAD [0, 1, 2, 3, 35, 36, 37] | exit 2: []
/-- spec.pzLook -/
def lb173_1 : C := .kl [48] (.seq (.reg [⟨some 38, .bin .lss (.t 37) (.t 36), none⟩]) (.seq (.cond (.t 38) (.skip) (.kl [0, 1, 2, 3, 35, 36, 37, 38] (.exit 2))) (.kl [38] (.seq (.blk 3 (.seq (.reg [⟨some 39, .iaddr 1 (.t 35) (.t 37), none⟩, ⟨some 40, .load false 1 (.t 39), none⟩, ⟨some 11, .mov (.t 40), none⟩]) (.kl [39, 40] (.reg [⟨some 41, .mov (.t 0), none⟩, ⟨some 42, .mov (.t 1), none⟩, ⟨some 43, .mov (.t 2), none⟩, ⟨some 44, .mov (.t 11), none⟩, ⟨some 45, .bin .add (.t 43) (.t 44), none⟩, ⟨some 46, .mov (.t 3), none⟩, ⟨some 47, .call 173 [.t 41, .t 42, .t 45, .t 46], none⟩])))) (.kl [11, 41, 42, 43, 44, 45, 46, 47] (.reg [⟨some 48, .bin .add (.t 37) (.c (.int .i64 1)), none⟩, ⟨some 37, .mov (.t 48), none⟩]))))))
def lp173_1 : C := lb173_1
def lb173_0 : C := .kl [26] (.seq (.reg [⟨some 19, .bin .lss (.t 18) (.t 17), none⟩]) (.seq (.cond (.t 19) (.skip) (.kl [16, 17, 18, 19] (.exit 0))) (.kl [19] (.seq (.blk 1 (.seq (.reg [⟨some 20, .iaddr 3 (.t 16) (.t 18), none⟩, ⟨some 21, .load true 3 (.t 20), none⟩, ⟨some 9, .new [.int .i64 0, .int .i64 0, .int .i64 0], none⟩, ⟨none, .store 3 (.t 9) (.t 21), none⟩]) (.kl [20, 21] (.seq (.reg [⟨some 22, .load true 3 (.t 9), none⟩, ⟨some 23, .mov (.t 2), none⟩, ⟨some 24, .call 181 [.t 22, .t 23], none⟩, ⟨some 25, .un .not (.t 24), none⟩]) (.kl [9, 22, 23, 24] (.cond (.t 25) (.kl [2, 3, 16, 17, 18, 25] (.ret)) (.skip))))))) (.kl [25] (.reg [⟨some 26, .bin .add (.t 18) (.c (.int .i64 1)), none⟩, ⟨some 18, .mov (.t 26), none⟩]))))))
def lp173_0 : C := lb173_0
def fi173 : FI := ⟨.seq (.seq (.reg [⟨some 12, .mov (.t 2), none⟩, ⟨some 13, .lenS (.t 12), none⟩, ⟨some 14, .mov (.t 0), none⟩, ⟨some 15, .bin .eql (.t 13) (.t 14), none⟩]) (.kl [12, 13, 14] (.cond (.t 15) (.kl [0, 15] (.seq (.seq (.reg [⟨some 16, .mov (.t 1), none⟩, ⟨some 17, .lenV (.t 16), none⟩, ⟨some 18, .mov (.c (.int .i64 0)), none⟩]) (.kl [1] (.blk 0 (.loop lp173_0)))) (.seq (.reg [⟨some 27, .mov (.t 3), none⟩, ⟨some 28, .mov (.t 3), none⟩, ⟨some 29, .nck (.t 28), none⟩, ⟨some 30, .load false 1 (.t 29), none⟩, ⟨some 31, .mov (.t 2), none⟩, ⟨some 32, .lit 1 1 [.str []] [(0, 1, .t 31)], none⟩, ⟨some 33, .app 1 (.t 30) (.t 32), none⟩, ⟨some 34, .nck (.t 27), none⟩, ⟨none, .store 1 (.t 34) (.t 33), none⟩]) (.kl [2, 3, 27, 28, 29, 30, 31, 32, 33, 34] (.ret))))) (.skip)))) (.kl [15] (.seq (.reg [⟨some 35, .lit 1 3 [.str [], .str [], .str []] [(0, 1, .c (.str [46])), (1, 1, .c (.str [70])), (2, 1, .c (.str [84]))], none⟩, ⟨some 36, .lenV (.t 35), none⟩, ⟨some 37, .mov (.c (.int .i64 0)), none⟩]) (.blk 2 (.loop lp173_1)))), []⟩
/-- laws.toClue -/
def fi174 : FI := ⟨.seq (.reg [⟨some 1, .box (.t 0), none⟩, ⟨some 2, .new [.int .i64 0, .int .i64 0, .int .i64 0], none⟩]) (.kl [0] (.seq (.reg [⟨some 3, .new [.int .i64 0, .int .i64 0, .int .i64 0], none⟩]) (.seq (.reg [⟨some 4, .faddr 0 1 (.t 1), none⟩, ⟨some 5, .load false 1 (.t 4), none⟩, ⟨some 6, .faddr 0 1 (.t 3), none⟩, ⟨none, .store 1 (.t 6) (.t 5), none⟩]) (.kl [4, 5, 6] (.seq (.reg [⟨some 7, .faddr 1 1 (.t 1), none⟩, ⟨some 8, .load false 1 (.t 7), none⟩, ⟨some 9, .faddr 1 1 (.t 3), none⟩, ⟨none, .store 1 (.t 9) (.t 8), none⟩]) (.kl [7, 8, 9] (.seq (.reg [⟨some 10, .faddr 2 1 (.t 1), none⟩, ⟨some 11, .load false 1 (.t 10), none⟩, ⟨some 12, .faddr 2 1 (.t 3), none⟩, ⟨none, .store 1 (.t 12) (.t 11), none⟩]) (.kl [1, 10, 11, 12] (.seq (.reg [⟨some 13, .load true 3 (.t 3), none⟩, ⟨none, .store 3 (.t 2) (.t 13), none⟩]) (.kl [3, 13] (.ret))))))))))), [.cell true 3 2]⟩
/-- impl.Solutions -/
def fi163 : FI := ⟨.seq (.reg [⟨some 1, .box (.t 0), none⟩, ⟨some 2, .mov (.c (.nilS)), none⟩, ⟨some 3, .mov (.c (.bool false)), none⟩]) (.kl [0, 2, 3] (.seq (.seq (.reg [⟨some 4, .load true 2 (.t 1), none⟩, ⟨some 5, .call 166 [.t 4], none⟩, ⟨some 6, .un .not (.t 5), none⟩]) (.kl [4, 5] (.cond (.t 6) (.kl [1, 6] (.seq (.reg [⟨some 2, .mov (.c (.nilS)), none⟩, ⟨some 3, .mov (.c (.bool false)), none⟩]) (.ret))) (.skip)))) (.kl [6] (.seq (.reg [⟨some 7, .faddr 0 1 (.t 1), none⟩, ⟨some 8, .load false 1 (.t 7), none⟩, ⟨some 9, .faddr 1 1 (.t 1), none⟩, ⟨some 10, .load false 1 (.t 9), none⟩, ⟨some 11, .call 167 [.t 8, .t 10], none⟩, ⟨some 2, .mov (.t 11), none⟩, ⟨some 3, .mov (.c (.bool true)), none⟩]) (.kl [1, 7, 8, 9, 10, 11] (.ret)))))), [.tmp 2, .tmp 3]⟩
-- lp178_0 HEAD [3, 10, 11] | exit 0: [3] | exit 2: [4, 10, 11] | exit 4: [4, 10, 11, 14, 15, 16]
-- lp178_1 HEAD [4, 10, 11, 14, 15, 16] | exit 2: [4, 10, 11] | exit 4: [4, 10, 11, 14, 15, 16]
-- lp178_2 HEAD [4, 6, 10, 11, 14, 15, 16, 20] | exit 4: [4, 10, 11, 14, 15, 16]
/-- impl.hidden -/
def lb178_2 : C := .kl [8, 24, 25, 26, 27, 28, 29, 30] (.seq (.reg [⟨some 21, .nxt (.t 20), none⟩, ⟨some 22, .prj 0 (.t 21), none⟩]) (.seq (.cond (.t 22) (.skip) (.kl [6, 20, 21, 22] (.exit 4))) (.kl [22] (.blk 5 (.seq (.reg [⟨some 23, .prj 2 (.t 21), none⟩, ⟨some 8, .mov (.t 23), none⟩]) (.kl [21, 23] (.reg [⟨some 24, .mov (.t 4), none⟩, ⟨some 25, .mov (.t 6), none⟩, ⟨some 26, .mov (.t 8), none⟩, ⟨some 27, .ofR (.t 26), none⟩, ⟨some 28, .bin .add (.t 25) (.t 27), none⟩, ⟨some 29, .lit 1 1 [.str []] [(0, 1, .t 28)], none⟩, ⟨some 30, .app 1 (.t 24) (.t 29), none⟩, ⟨some 4, .mov (.t 30), none⟩])))))))
def lp178_2 : C := lb178_2
def lb178_1 : C := .kl [31] (.seq (.reg [⟨some 17, .bin .lss (.t 16) (.t 15), none⟩]) (.seq (.cond (.t 17) (.skip) (.kl [14, 15, 16, 17] (.exit 2))) (.kl [17] (.seq (.blk 3 (.seq (.reg [⟨some 18, .iaddr 1 (.t 14) (.t 16), none⟩, ⟨some 19, .load false 1 (.t 18), none⟩, ⟨some 6, .mov (.t 19), none⟩]) (.kl [18, 19] (.seq (.reg [⟨some 20, .rng (.c (.str [46, 70, 84])), none⟩]) (.blk 4 (.loop lp178_2)))))) (.reg [⟨some 31, .bin .add (.t 16) (.c (.int .i64 1)), none⟩, ⟨some 16, .mov (.t 31), none⟩])))))
def lp178_1 : C := lb178_1
def lb178_0 : C := .kl [33] (.seq (.reg [⟨some 12, .bin .lss (.t 11) (.t 10), none⟩]) (.seq (.cond (.t 12) (.skip) (.kl [10, 11, 12] (.exit 0))) (.kl [12] (.seq (.blk 1 (.seq (.reg [⟨some 13, .lit0, none⟩, ⟨some 4, .mov (.t 13), none⟩]) (.kl [13] (.seq (.seq (.reg [⟨some 14, .mov (.t 3), none⟩, ⟨some 15, .lenV (.t 14), none⟩, ⟨some 16, .mov (.c (.int .i64 0)), none⟩]) (.kl [3] (.blk 2 (.loop lp178_1)))) (.reg [⟨some 32, .mov (.t 4), none⟩, ⟨some 3, .mov (.t 32), none⟩]))))) (.kl [4, 32] (.reg [⟨some 33, .bin .add (.t 11) (.c (.int .i64 1)), none⟩, ⟨some 11, .mov (.t 33), none⟩]))))))
def lp178_0 : C := lb178_0
def fi178 : FI := ⟨.seq (.reg [⟨some 2, .mov (.c (.nilS)), none⟩]) (.kl [2] (.seq (.reg [⟨some 9, .lit 1 1 [.str []] [(0, 1, .c (.str []))], none⟩, ⟨some 3, .mov (.t 9), none⟩]) (.kl [9] (.seq (.seq (.reg [⟨some 10, .mov (.t 0), none⟩, ⟨some 11, .mov (.c (.int .i64 0)), none⟩]) (.kl [0] (.blk 0 (.loop lp178_0)))) (.seq (.reg [⟨some 34, .mov (.t 3), none⟩, ⟨some 2, .mov (.t 34), none⟩]) (.kl [3, 34] (.ret))))))), [.tmp 2]⟩
-- lp180_0 HEAD [0, 1, 5, 6] | exit 0: [0, 5]
/-- slices.DeleteFunc[[]string,string] -/
def lb180_0 : C := .kl [20, 21] (.seq (.seq (.reg [⟨some 16, .mov (.t 6), none⟩, ⟨some 17, .mov (.t 0), none⟩, ⟨some 18, .lenV (.t 17), none⟩, ⟨some 19, .bin .lss (.t 16) (.t 18), none⟩]) (.kl [16, 17, 18] (.cond (.t 19) (.skip) (.kl [1, 6, 19] (.exit 0))))) (.kl [19] (.seq (.blk 1 (.seq (.reg [⟨some 22, .mov (.t 0), none⟩, ⟨some 23, .mov (.t 6), none⟩, ⟨some 24, .iaddr 1 (.t 22) (.t 23), none⟩, ⟨some 25, .load false 1 (.t 24), none⟩, ⟨some 7, .mov (.t 25), none⟩]) (.kl [22, 23, 24, 25] (.seq (.reg [⟨some 26, .mov (.t 1), none⟩, ⟨some 27, .mov (.t 7), none⟩, ⟨some 28, .callv (.t 26) [.t 27], none⟩, ⟨some 29, .un .not (.t 28), none⟩]) (.kl [26, 27, 28] (.cond (.t 29) (.kl [29] (.seq (.reg [⟨some 30, .mov (.t 0), none⟩, ⟨some 31, .mov (.t 5), none⟩, ⟨some 32, .mov (.t 7), none⟩, ⟨some 33, .iaddr 1 (.t 30) (.t 31), none⟩, ⟨none, .store 1 (.t 33) (.t 32), none⟩]) (.kl [7, 30, 31, 32, 33] (.reg [⟨some 34, .mov (.t 5), none⟩, ⟨some 35, .bin .add (.t 34) (.c (.int .i64 1)), none⟩, ⟨some 5, .mov (.t 35), none⟩])))) (.skip))))))) (.kl [7, 29, 34, 35] (.reg [⟨some 20, .mov (.t 6), none⟩, ⟨some 21, .bin .add (.t 20) (.c (.int .i64 1)), none⟩, ⟨some 6, .mov (.t 21), none⟩])))))
def lp180_0 : C := lb180_0
def fi180 : FI := ⟨.seq (.reg [⟨some 4, .mov (.c (.nilS)), none⟩]) (.kl [4] (.seq (.reg [⟨some 8, .mov (.t 0), none⟩, ⟨some 9, .mov (.t 1), none⟩, ⟨some 10, .call 184 [.t 8, .t 9], none⟩, ⟨some 5, .mov (.t 10), none⟩]) (.kl [8, 9, 10] (.seq (.seq (.reg [⟨some 11, .mov (.t 5), none⟩, ⟨some 12, .bin .eql (.t 11) (.c (.int .i64 (-1))), none⟩]) (.kl [11] (.cond (.t 12) (.kl [1, 5, 12] (.seq (.reg [⟨some 13, .mov (.t 0), none⟩, ⟨some 4, .mov (.t 13), none⟩]) (.kl [0, 13] (.ret)))) (.skip)))) (.kl [12] (.seq (.seq (.reg [⟨some 14, .mov (.t 5), none⟩, ⟨some 15, .bin .add (.t 14) (.c (.int .i64 1)), none⟩, ⟨some 6, .mov (.t 15), none⟩]) (.kl [14, 15] (.blk 0 (.loop lp180_0)))) (.seq (.reg [⟨some 36, .mov (.t 0), none⟩, ⟨some 37, .mov (.t 5), none⟩, ⟨some 38, .sub 1 (.t 36) (some (.t 37)) none, none⟩, ⟨none, .clr [.str []] (.t 38), none⟩]) (.kl [36, 37, 38] (.seq (.reg [⟨some 39, .mov (.t 0), none⟩, ⟨some 40, .mov (.t 5), none⟩, ⟨some 41, .sub 1 (.t 39) none (some (.t 40)), none⟩, ⟨some 4, .mov (.t 41), none⟩]) (.kl [0, 5, 39, 40, 41] (.ret))))))))))), [.tmp 4]⟩
/-- impl.solve$1 -/
def fi179 : FI := ⟨.seq (.reg [⟨some 3, .mov (.c (.bool false)), none⟩]) (.kl [3] (.seq (.reg [⟨some 7, .load true 3 (.t 1), none⟩, ⟨some 8, .mov (.t 0), none⟩, ⟨some 9, .call 185 [.t 7, .t 8], none⟩, ⟨some 6, .mov (.t 9), none⟩, ⟨some 10, .prj 0 (.t 6), none⟩, ⟨some 11, .prj 1 (.t 6), none⟩, ⟨some 4, .mov (.t 10), none⟩, ⟨some 5, .mov (.t 11), none⟩]) (.kl [0, 1, 5, 6, 7, 8, 9, 10, 11] (.seq (.reg [⟨some 12, .mov (.t 4), none⟩, ⟨some 13, .un .not (.t 12), none⟩, ⟨some 3, .mov (.t 13), none⟩]) (.kl [4, 12, 13] (.ret)))))), [.tmp 3]⟩
/-- impl.DoesFit -/
def fi185 : FI := ⟨.seq (.reg [⟨some 2, .box (.t 0), none⟩, ⟨some 4, .mov (.c (.bool false)), none⟩, ⟨some 5, .mov (.c (.bool false)), none⟩]) (.kl [0, 4, 5] (.seq (.seq (.reg [⟨some 6, .mov (.t 1), none⟩, ⟨some 7, .call 82 [.t 6, .c (.int .i64 5)], none⟩, ⟨some 8, .un .not (.t 7), none⟩, ⟨some 9, .mov (.t 8), none⟩, ⟨some 10, .mov (.t 1), some (9, false)⟩, ⟨some 11, .lenS (.t 10), some (9, false)⟩, ⟨some 12, .load true 3 (.t 2), some (9, false)⟩, ⟨some 13, .call 183 [.t 11, .t 12], some (9, false)⟩, ⟨some 14, .un .not (.t 13), some (9, false)⟩, ⟨some 15, .pick (.t 9) (.c (.bool true)) (.t 14), none⟩]) (.kl [6, 7, 8, 9, 10, 11, 12, 13, 14] (.cond (.t 15) (.kl [1, 2, 15] (.seq (.reg [⟨some 4, .mov (.c (.bool false)), none⟩, ⟨some 5, .mov (.c (.bool false)), none⟩]) (.ret))) (.skip)))) (.kl [15] (.seq (.seq (.reg [⟨some 16, .faddr 0 1 (.t 2), none⟩, ⟨some 17, .load false 1 (.t 16), none⟩, ⟨some 18, .bin .eql (.t 17) (.c (.int .i64 0)), none⟩]) (.kl [16, 17] (.cond (.t 18) (.kl [18] (.seq (.reg [⟨some 19, .load true 3 (.t 2), none⟩, ⟨some 20, .mov (.t 1), none⟩, ⟨some 21, .call 186 [.t 19, .t 20], none⟩, ⟨some 4, .mov (.t 21), none⟩, ⟨some 5, .mov (.c (.bool true)), none⟩]) (.kl [1, 2, 19, 20, 21] (.ret)))) (.skip)))) (.kl [18] (.seq (.drw [⟨some 22, .faddr 0 1 (.t 2), none⟩, ⟨some 23, .load false 1 (.t 22), none⟩, ⟨some 24, .mov (.t 1), none⟩, ⟨some 25, .call 187 [.t 23, .c (.int .i64 0), .t 24], none⟩, ⟨some 26, .load true 3 (.t 2), none⟩, ⟨some 27, .aeq false [0, 0, 0] (.t 25) (.t 26), none⟩, ⟨some 4, .mov (.t 27), none⟩, ⟨some 5, .mov (.c (.bool true)), none⟩] [(4, 3)]) (.kl [1, 2, 22, 23, 24, 25, 26, 27] (.ret)))))))), [.tmp 4, .tmp 5]⟩
/-- laws.eqClue -/
def fi175 : FI := ⟨.seq (.reg [⟨some 2, .box (.t 0), none⟩, ⟨some 3, .box (.t 1), none⟩, ⟨some 4, .mov (.c (.bool false)), none⟩]) (.kl [0, 1, 4] (.seq (.seq (.reg [⟨some 5, .faddr 0 1 (.t 2), none⟩, ⟨some 6, .load false 1 (.t 5), none⟩, ⟨some 7, .faddr 0 1 (.t 3), none⟩, ⟨some 8, .load false 1 (.t 7), none⟩, ⟨some 9, .bin .neq (.t 6) (.t 8), none⟩]) (.kl [5, 6, 7, 8] (.cond (.t 9) (.kl [2, 3, 9] (.seq (.reg [⟨some 4, .mov (.c (.bool false)), none⟩]) (.ret))) (.skip)))) (.kl [9] (.seq (.seq (.reg [⟨some 10, .faddr 1 1 (.t 2), none⟩, ⟨some 11, .load false 1 (.t 10), none⟩, ⟨some 12, .faddr 1 1 (.t 3), none⟩, ⟨some 13, .load false 1 (.t 12), none⟩, ⟨some 14, .bin .neq (.t 11) (.t 13), none⟩]) (.kl [10, 11, 12, 13] (.cond (.t 14) (.kl [2, 3, 14] (.seq (.reg [⟨some 4, .mov (.c (.bool false)), none⟩]) (.ret))) (.skip)))) (.kl [14] (.seq (.seq (.reg [⟨some 15, .faddr 2 1 (.t 2), none⟩, ⟨some 16, .load false 1 (.t 15), none⟩, ⟨some 17, .faddr 2 1 (.t 3), none⟩, ⟨some 18, .load false 1 (.t 17), none⟩, ⟨some 19, .bin .neq (.t 16) (.t 18), none⟩]) (.kl [2, 3, 15, 16, 17, 18] (.cond (.t 19) (.kl [19] (.seq (.reg [⟨some 4, .mov (.c (.bool false)), none⟩]) (.ret))) (.skip)))) (.kl [19] (.seq (.reg [⟨some 4, .mov (.c (.bool true)), none⟩]) (.ret))))))))), [.tmp 4]⟩
/-- spec.l1In -/
def fi77 : FI := ⟨.seq (.reg [⟨some 6, .mov (.c (.bool false)), none⟩]) (.kl [6] (.seq (.reg [⟨some 7, .mov (.t 0), none⟩, ⟨some 8, .mov (.t 1), none⟩, ⟨some 9, .bin .geq (.t 7) (.t 8), none⟩, ⟨some 10, .mov (.t 9), none⟩, ⟨some 11, .mov (.t 0), some (10, true)⟩, ⟨some 12, .mov (.t 2), some (10, true)⟩, ⟨some 13, .bin .leq (.t 11) (.t 12), some (10, true)⟩, ⟨some 14, .pick (.t 10) (.t 13) (.c (.bool false)), none⟩, ⟨some 6, .mov (.t 14), none⟩]) (.kl [0, 1, 2, 7, 8, 9, 10, 11, 12, 13, 14] (.ret)))), [.tmp 6]⟩
/-- spec.pzFits -/
def fi181 : FI := ⟨.seq (.reg [⟨some 2, .box (.t 0), none⟩, ⟨some 4, .mov (.c (.bool false)), none⟩]) (.kl [0, 4] (.seq (.seq (.reg [⟨some 5, .faddr 0 1 (.t 2), none⟩, ⟨some 6, .load false 1 (.t 5), none⟩, ⟨some 7, .bin .eql (.t 6) (.c (.int .i64 0)), none⟩]) (.kl [5, 6] (.cond (.t 7) (.kl [7] (.seq (.drw [⟨some 8, .faddr 1 1 (.t 2), none⟩, ⟨some 9, .load false 1 (.t 8), none⟩, ⟨some 10, .mov (.t 1), none⟩, ⟨some 11, .call 188 [.c (.int .i64 0), .t 9, .t 10], none⟩, ⟨some 12, .faddr 2 1 (.t 2), none⟩, ⟨some 13, .load false 1 (.t 12), none⟩, ⟨some 14, .bin .eql (.t 11) (.t 13), none⟩, ⟨some 4, .mov (.t 14), none⟩] [(5, 3)]) (.kl [1, 2, 8, 9, 10, 11, 12, 13, 14] (.ret)))) (.skip)))) (.kl [7] (.seq (.drw [⟨some 15, .faddr 0 1 (.t 2), none⟩, ⟨some 16, .load false 1 (.t 15), none⟩, ⟨some 17, .mov (.t 1), none⟩, ⟨some 18, .call 188 [.t 16, .c (.int .i64 0), .t 17], none⟩, ⟨some 19, .faddr 1 1 (.t 2), none⟩, ⟨some 20, .load false 1 (.t 19), none⟩, ⟨some 21, .bin .eql (.t 18) (.t 20), none⟩, ⟨some 4, .mov (.t 21), none⟩] [(5, 3)]) (.kl [1, 2, 15, 16, 17, 18, 19, 20, 21] (.ret)))))), [.tmp 4]⟩
/-- impl.IsPuzzle -/
def fi166 : FI := ⟨.seq (.reg [⟨some 1, .box (.t 0), none⟩, ⟨some 2, .mov (.c (.bool false)), none⟩]) (.kl [0, 2] (.seq (.reg [⟨some 3, .faddr 0 1 (.t 1), none⟩, ⟨some 4, .load false 1 (.t 3), none⟩, ⟨some 5, .call 74 [.t 4, .c (.int .i64 1), .c (.int .i64 5)], none⟩, ⟨some 6, .mov (.t 5), none⟩, ⟨some 7, .faddr 1 1 (.t 1), some (6, true)⟩, ⟨some 8, .load false 1 (.t 7), some (6, true)⟩, ⟨some 9, .lenV (.t 8), some (6, true)⟩, ⟨some 10, .bin .leq (.t 9) (.c (.int .i64 6)), some (6, true)⟩, ⟨some 11, .pick (.t 6) (.t 10) (.c (.bool false)), none⟩, ⟨some 12, .mov (.t 11), none⟩, ⟨some 13, .faddr 1 1 (.t 1), some (12, true)⟩, ⟨some 14, .load false 1 (.t 13), some (12, true)⟩, ⟨some 15, .mkfn 176 [.t 1], some (12, true)⟩, ⟨some 16, .call 177 [.t 14, .t 15], some (12, true)⟩, ⟨some 17, .un .not (.t 16), some (12, true)⟩, ⟨some 18, .pick (.t 12) (.t 17) (.c (.bool false)), none⟩, ⟨some 2, .mov (.t 18), none⟩]) (.kl [1, 3, 4, 5, 6, 7, 8, 9, 10, 11, 12, 13, 14, 15, 16, 17, 18] (.ret)))), [.tmp 2]⟩
-- lp184_0 HEAD [0, 1, 7, 8] | exit 0: [] | ret: [4]
/-- slices.IndexFunc[[]string,string] -/
def lb184_0 : C := .kl [18] (.seq (.reg [⟨some 9, .bin .lss (.t 8) (.t 7), none⟩]) (.seq (.cond (.t 9) (.skip) (.kl [0, 1, 7, 8, 9] (.exit 0))) (.kl [9] (.seq (.blk 1 (.seq (.reg [⟨some 10, .mov (.t 8), none⟩, ⟨some 5, .mov (.t 10), none⟩]) (.kl [10] (.seq (.reg [⟨some 11, .mov (.t 1), none⟩, ⟨some 12, .mov (.t 0), none⟩, ⟨some 13, .mov (.t 5), none⟩, ⟨some 14, .iaddr 1 (.t 12) (.t 13), none⟩, ⟨some 15, .load false 1 (.t 14), none⟩, ⟨some 16, .callv (.t 11) [.t 15], none⟩]) (.kl [11, 12, 13, 14, 15] (.cond (.t 16) (.kl [0, 1, 7, 8, 16] (.seq (.reg [⟨some 17, .mov (.t 5), none⟩, ⟨some 4, .mov (.t 17), none⟩]) (.kl [5, 17] (.ret)))) (.skip))))))) (.kl [5, 16] (.reg [⟨some 18, .bin .add (.t 8) (.c (.int .i64 1)), none⟩, ⟨some 8, .mov (.t 18), none⟩]))))))
def lp184_0 : C := lb184_0
def fi184 : FI := ⟨.seq (.reg [⟨some 4, .mov (.c (.int .i64 0)), none⟩]) (.kl [4] (.seq (.seq (.reg [⟨some 6, .mov (.t 0), none⟩, ⟨some 7, .lenV (.t 6), none⟩, ⟨some 8, .mov (.c (.int .i64 0)), none⟩]) (.kl [6] (.blk 0 (.loop lp184_0)))) (.seq (.reg [⟨some 4, .mov (.c (.int .i64 (-1))), none⟩]) (.ret)))), [.tmp 4]⟩
/-- impl.isLineOf -/
def fi82 : FI := ⟨.seq (.reg [⟨some 4, .mov (.c (.bool false)), none⟩]) (.kl [4] (.seq (.reg [⟨some 5, .mov (.t 0), none⟩, ⟨some 6, .lenS (.t 5), none⟩, ⟨some 7, .mov (.t 1), none⟩, ⟨some 8, .call 74 [.t 6, .c (.int .i64 1), .t 7], none⟩, ⟨some 9, .mov (.t 8), none⟩, ⟨some 10, .mov (.t 0), some (9, true)⟩, ⟨some 11, .call 111 [.t 10, .c (.str [46, 70, 84])], some (9, true)⟩, ⟨some 12, .bin .eql (.t 11) (.c (.str [])), some (9, true)⟩, ⟨some 13, .pick (.t 9) (.t 12) (.c (.bool false)), none⟩, ⟨some 4, .mov (.t 13), none⟩]) (.kl [0, 1, 5, 6, 7, 8, 9, 10, 11, 12, 13] (.ret)))), [.tmp 4]⟩
/-- impl.IsClue -/
def fi183 : FI := ⟨.seq (.reg [⟨some 3, .box (.t 1), none⟩, ⟨some 4, .mov (.c (.bool false)), none⟩]) (.kl [1, 4] (.seq (.seq (.reg [⟨some 5, .mov (.t 0), none⟩, ⟨some 6, .call 74 [.t 5, .c (.int .i64 1), .c (.int .i64 5)], none⟩, ⟨some 7, .un .not (.t 6), none⟩]) (.kl [5, 6] (.cond (.t 7) (.kl [0, 3, 7] (.seq (.reg [⟨some 4, .mov (.c (.bool false)), none⟩]) (.ret))) (.skip)))) (.kl [7] (.seq (.seq (.reg [⟨some 8, .faddr 0 1 (.t 3), none⟩, ⟨some 9, .load false 1 (.t 8), none⟩]) (.kl [8] (.blk 0 (.seq (.reg [⟨some 11, .bin .eql (.t 9) (.c (.int .i64 0)), none⟩, ⟨some 10, .mov (.t 11), none⟩]) (.kl [11] (.cond (.t 10) (.kl [9, 10] (.seq (.reg [⟨some 12, .faddr 1 1 (.t 3), none⟩, ⟨some 13, .load false 1 (.t 12), none⟩, ⟨some 14, .mov (.t 0), none⟩, ⟨some 15, .bin .sub (.t 14) (.c (.int .i64 1)), none⟩, ⟨some 16, .call 74 [.t 13, .c (.int .i64 0), .t 15], none⟩, ⟨some 17, .mov (.t 16), none⟩, ⟨some 18, .faddr 2 1 (.t 3), some (17, true)⟩, ⟨some 19, .load false 1 (.t 18), some (17, true)⟩, ⟨some 20, .call 74 [.t 19, .c (.int .i64 0), .c (.int .i64 2)], some (17, true)⟩, ⟨some 21, .pick (.t 17) (.t 20) (.c (.bool false)), none⟩, ⟨some 4, .mov (.t 21), none⟩]) (.kl [0, 3, 12, 13, 14, 15, 16, 17, 18, 19, 20, 21] (.ret)))) (.kl [10] (.seq (.seq (.reg [⟨some 23, .bin .eql (.t 9) (.c (.int .i64 1)), none⟩, ⟨some 22, .mov (.t 23), none⟩]) (.kl [23] (.cond (.t 22) (.skip) (.kl [22] (.reg [⟨some 24, .bin .eql (.t 9) (.c (.int .i64 2)), none⟩, ⟨some 22, .mov (.t 24), none⟩]))))) (.kl [24] (.cond (.t 22) (.kl [9, 22] (.seq (.reg [⟨some 25, .faddr 1 1 (.t 3), none⟩, ⟨some 26, .load false 1 (.t 25), none⟩, ⟨some 27, .mov (.t 0), none⟩, ⟨some 28, .call 74 [.t 26, .c (.int .i64 0), .t 27], none⟩, ⟨some 29, .mov (.t 28), none⟩, ⟨some 30, .faddr 2 1 (.t 3), some (29, true)⟩, ⟨some 31, .load false 1 (.t 30), some (29, true)⟩, ⟨some 32, .bin .eql (.t 31) (.c (.int .i64 0)), some (29, true)⟩, ⟨some 33, .pick (.t 29) (.t 32) (.c (.bool false)), none⟩, ⟨some 4, .mov (.t 33), none⟩]) (.kl [0, 3, 25, 26, 27, 28, 29, 30, 31, 32, 33] (.ret)))) (.kl [22] (.seq (.reg [⟨some 35, .bin .eql (.t 9) (.c (.int .i64 3)), none⟩, ⟨some 34, .mov (.t 35), none⟩]) (.kl [35] (.cond (.t 34) (.kl [9, 34] (.seq (.reg [⟨some 36, .faddr 1 1 (.t 3), none⟩, ⟨some 37, .load false 1 (.t 36), none⟩, ⟨some 38, .mov (.t 0), none⟩, ⟨some 39, .bin .mul (.c (.int .i64 2)) (.t 38), none⟩, ⟨some 40, .call 74 [.t 37, .c (.int .i64 0), .t 39], none⟩, ⟨some 41, .mov (.t 40), none⟩, ⟨some 42, .faddr 2 1 (.t 3), some (41, true)⟩, ⟨some 43, .load false 1 (.t 42), some (41, true)⟩, ⟨some 44, .bin .eql (.t 43) (.c (.int .i64 0)), some (41, true)⟩, ⟨some 45, .pick (.t 41) (.t 44) (.c (.bool false)), none⟩, ⟨some 4, .mov (.t 45), none⟩]) (.kl [0, 3, 36, 37, 38, 39, 40, 41, 42, 43, 44, 45] (.ret)))) (.kl [0, 34] (.seq (.reg [⟨some 47, .bin .eql (.t 9) (.c (.int .i64 4)), none⟩, ⟨some 46, .mov (.t 47), none⟩]) (.kl [47] (.cond (.t 46) (.kl [9, 46] (.seq (.reg [⟨some 48, .faddr 1 1 (.t 3), none⟩, ⟨some 49, .load false 1 (.t 48), none⟩, ⟨some 50, .call 74 [.t 49, .c (.int .i64 0), .c (.int .i64 10)], none⟩, ⟨some 51, .mov (.t 50), none⟩, ⟨some 52, .faddr 2 1 (.t 3), some (51, true)⟩, ⟨some 53, .load false 1 (.t 52), some (51, true)⟩, ⟨some 54, .bin .eql (.t 53) (.c (.int .i64 0)), some (51, true)⟩, ⟨some 55, .pick (.t 51) (.t 54) (.c (.bool false)), none⟩, ⟨some 4, .mov (.t 55), none⟩]) (.kl [3, 48, 49, 50, 51, 52, 53, 54, 55] (.ret)))) (.kl [46] (.seq (.reg [⟨some 57, .bin .eql (.t 9) (.c (.int .i64 5)), none⟩, ⟨some 56, .mov (.t 57), none⟩]) (.kl [9, 57] (.cond (.t 56) (.kl [56] (.seq (.reg [⟨some 58, .faddr 1 1 (.t 3), none⟩, ⟨some 59, .load false 1 (.t 58), none⟩, ⟨some 60, .call 74 [.t 59, .c (.int .i64 0), .c (.int .i64 3)], none⟩, ⟨some 61, .mov (.t 60), none⟩, ⟨some 62, .faddr 2 1 (.t 3), some (61, true)⟩, ⟨some 63, .load false 1 (.t 62), some (61, true)⟩, ⟨some 64, .bin .eql (.t 63) (.c (.int .i64 0)), some (61, true)⟩, ⟨some 65, .pick (.t 61) (.t 64) (.c (.bool false)), none⟩, ⟨some 4, .mov (.t 65), none⟩]) (.kl [3, 58, 59, 60, 61, 62, 63, 64, 65] (.ret)))) (.skip))))))))))))))))))))))) (.kl [3, 56] (.seq (.reg [⟨some 4, .mov (.c (.bool false)), none⟩]) (.ret))))))), [.tmp 4]⟩
/-- (impl.Clue).fits -/
def fi186 : FI := ⟨.seq (.reg [⟨some 2, .box (.t 0), none⟩, ⟨some 4, .mov (.c (.bool false)), none⟩]) (.kl [0, 4] (.seq (.drw [⟨some 5, .faddr 0 1 (.t 2), none⟩, ⟨some 6, .load false 1 (.t 5), none⟩, ⟨some 7, .faddr 1 1 (.t 2), none⟩, ⟨some 8, .load false 1 (.t 7), none⟩, ⟨some 9, .mov (.t 1), none⟩, ⟨some 10, .call 187 [.t 6, .t 8, .t 9], none⟩, ⟨some 11, .load true 3 (.t 2), none⟩, ⟨some 12, .aeq false [0, 0, 0] (.t 10) (.t 11), none⟩, ⟨some 4, .mov (.t 12), none⟩] [(6, 5)]) (.kl [1, 2, 5, 6, 7, 8, 9, 10, 11, 12] (.ret)))), [.tmp 4]⟩
/-- impl.clueOf -/
def fi187 : FI := ⟨.seq (.reg [⟨some 6, .new [.int .i64 0, .int .i64 0, .int .i64 0], none⟩]) (.seq (.reg [⟨some 11, .mov (.t 2), none⟩, ⟨some 12, .call 189 [.t 11], none⟩, ⟨some 10, .mov (.t 12), none⟩, ⟨some 13, .prj 0 (.t 10), none⟩, ⟨some 14, .prj 1 (.t 10), none⟩, ⟨some 15, .prj 2 (.t 10), none⟩, ⟨some 7, .mov (.t 13), none⟩, ⟨some 8, .mov (.t 14), none⟩, ⟨some 9, .mov (.t 15), none⟩]) (.kl [8, 10, 11, 12, 13, 14, 15] (.seq (.seq (.reg [⟨some 16, .mov (.t 0), none⟩]) (.kl [0] (.blk 0 (.seq (.reg [⟨some 18, .bin .eql (.t 16) (.c (.int .i64 0)), none⟩, ⟨some 17, .mov (.t 18), none⟩]) (.kl [18] (.cond (.t 17) (.kl [7, 9, 16, 17] (.seq (.reg [⟨some 19, .mov (.t 1), none⟩, ⟨some 20, .mov (.t 2), none⟩, ⟨some 21, .mov (.t 1), none⟩, ⟨some 22, .idxS (.t 20) (.t 21), none⟩, ⟨some 23, .call 190 [.c (.str [46, 70, 84]), .t 22], none⟩, ⟨some 24, .build [.int .i64 0, .int .i64 0, .int .i64 0] [(0, 1, .c (.int .i64 0)), (1, 1, .t 19), (2, 1, .t 23)], none⟩, ⟨none, .store 3 (.t 6) (.t 24), none⟩]) (.kl [1, 2, 19, 20, 21, 22, 23, 24] (.ret)))) (.kl [1, 17] (.seq (.reg [⟨some 26, .bin .eql (.t 16) (.c (.int .i64 1)), none⟩, ⟨some 25, .mov (.t 26), none⟩]) (.kl [26] (.cond (.t 25) (.kl [2, 9, 16, 25] (.seq (.reg [⟨some 27, .mov (.t 7), none⟩, ⟨some 28, .build [.int .i64 0, .int .i64 0, .int .i64 0] [(0, 1, .c (.int .i64 1)), (1, 1, .t 27), (2, 1, .c (.int .i64 0))], none⟩, ⟨none, .store 3 (.t 6) (.t 28), none⟩]) (.kl [7, 27, 28] (.ret)))) (.kl [7, 25] (.seq (.reg [⟨some 30, .bin .eql (.t 16) (.c (.int .i64 2)), none⟩, ⟨some 29, .mov (.t 30), none⟩]) (.kl [30] (.cond (.t 29) (.kl [2, 16, 29] (.seq (.reg [⟨some 31, .mov (.t 9), none⟩, ⟨some 32, .build [.int .i64 0, .int .i64 0, .int .i64 0] [(0, 1, .c (.int .i64 2)), (1, 1, .t 31), (2, 1, .c (.int .i64 0))], none⟩, ⟨none, .store 3 (.t 6) (.t 32), none⟩]) (.kl [9, 31, 32] (.ret)))) (.kl [9, 29] (.seq (.reg [⟨some 34, .bin .eql (.t 16) (.c (.int .i64 3)), none⟩, ⟨some 33, .mov (.t 34), none⟩]) (.kl [34] (.cond (.t 33) (.kl [16, 33] (.seq (.reg [⟨some 35, .mov (.t 2), none⟩, ⟨some 36, .call 105 [.t 35, .c (.str [84, 70])], none⟩, ⟨some 37, .lenV (.t 36), none⟩, ⟨some 38, .build [.int .i64 0, .int .i64 0, .int .i64 0] [(0, 1, .c (.int .i64 3)), (1, 1, .t 37), (2, 1, .c (.int .i64 0))], none⟩, ⟨none, .store 3 (.t 6) (.t 38), none⟩]) (.kl [2, 35, 36, 37, 38] (.ret)))) (.kl [33] (.seq (.reg [⟨some 40, .bin .eql (.t 16) (.c (.int .i64 4)), none⟩, ⟨some 39, .mov (.t 40), none⟩]) (.kl [16, 40] (.cond (.t 39) (.kl [39] (.seq (.reg [⟨some 41, .mov (.t 2), none⟩, ⟨some 42, .call 191 [.t 41], none⟩, ⟨some 43, .build [.int .i64 0, .int .i64 0, .int .i64 0] [(0, 1, .c (.int .i64 4)), (1, 1, .t 42), (2, 1, .c (.int .i64 0))], none⟩, ⟨none, .store 3 (.t 6) (.t 43), none⟩]) (.kl [2, 41, 42, 43] (.ret)))) (.skip))))))))))))))))))))))) (.kl [39] (.seq (.reg [⟨some 44, .call 192 [], none⟩, ⟨some 45, .mov (.t 2), none⟩, ⟨some 46, .call 193 [.t 44, .t 45], none⟩, ⟨some 47, .call 194 [.c (.str [49, 50, 70, 84]), .t 46], none⟩, ⟨some 48, .build [.int .i64 0, .int .i64 0, .int .i64 0] [(0, 1, .c (.int .i64 5)), (1, 1, .t 47), (2, 1, .c (.int .i64 0))], none⟩, ⟨none, .store 3 (.t 6) (.t 48), none⟩]) (.kl [2, 44, 45, 46, 47, 48] (.ret))))))), [.cell true 3 6]⟩
/-- spec.pzValue -/
def fi188 : FI := ⟨.seq (.reg [⟨some 6, .mov (.c (.int .i64 0)), none⟩]) (.kl [6] (.seq (.seq (.reg [⟨some 7, .mov (.t 0), none⟩]) (.kl [0] (.blk 0 (.seq (.reg [⟨some 9, .bin .eql (.t 7) (.c (.int .i64 0)), none⟩, ⟨some 8, .mov (.t 9), none⟩]) (.kl [9] (.cond (.t 8) (.kl [7, 8] (.seq (.reg [⟨some 10, .mov (.t 2), none⟩, ⟨some 11, .mov (.t 1), none⟩, ⟨some 12, .mov (.t 1), none⟩, ⟨some 13, .bin .add (.t 12) (.c (.int .i64 1)), none⟩, ⟨some 14, .subS (.t 10) (some (.t 11)) (some (.t 13)), none⟩, ⟨some 15, .call 195 [.c (.str [46, 70, 84]), .t 14], none⟩, ⟨some 6, .mov (.t 15), none⟩]) (.kl [1, 2, 10, 11, 12, 13, 14, 15] (.ret)))) (.kl [1, 8] (.seq (.reg [⟨some 17, .bin .eql (.t 7) (.c (.int .i64 1)), none⟩, ⟨some 16, .mov (.t 17), none⟩]) (.kl [17] (.cond (.t 16) (.kl [7, 16] (.seq (.reg [⟨some 18, .mov (.t 2), none⟩, ⟨some 19, .call 116 [.t 18, .c (.int .u8 84)], none⟩, ⟨some 6, .mov (.t 19), none⟩]) (.kl [2, 18, 19] (.ret)))) (.kl [16] (.seq (.reg [⟨some 21, .bin .eql (.t 7) (.c (.int .i64 2)), none⟩, ⟨some 20, .mov (.t 21), none⟩]) (.kl [21] (.cond (.t 20) (.kl [7, 20] (.seq (.reg [⟨some 22, .mov (.t 2), none⟩, ⟨some 23, .call 116 [.t 22, .c (.int .u8 70)], none⟩, ⟨some 6, .mov (.t 23), none⟩]) (.kl [2, 22, 23] (.ret)))) (.kl [20] (.seq (.reg [⟨some 25, .bin .eql (.t 7) (.c (.int .i64 3)), none⟩, ⟨some 24, .mov (.t 25), none⟩]) (.kl [25] (.cond (.t 24) (.kl [7, 24] (.seq (.reg [⟨some 26, .mov (.t 2), none⟩, ⟨some 27, .call 119 [.t 26, .c (.bool true), .c (.bool true)], none⟩, ⟨some 28, .lenV (.t 27), none⟩, ⟨some 6, .mov (.t 28), none⟩]) (.kl [2, 26, 27, 28] (.ret)))) (.kl [24] (.seq (.reg [⟨some 30, .bin .eql (.t 7) (.c (.int .i64 4)), none⟩, ⟨some 29, .mov (.t 30), none⟩]) (.kl [7, 30] (.cond (.t 29) (.kl [29] (.seq (.reg [⟨some 31, .mov (.t 2), none⟩, ⟨some 32, .call 196 [.t 31], none⟩, ⟨some 6, .mov (.t 32), none⟩]) (.kl [2, 31, 32] (.ret)))) (.skip))))))))))))))))))))))) (.kl [29] (.seq (.reg [⟨some 33, .mov (.t 2), none⟩, ⟨some 34, .lit 1 1 [.str []] [(0, 1, .t 33)], none⟩, ⟨some 35, .call 197 [.t 34], none⟩, ⟨some 36, .call 195 [.c (.str [49, 50, 70, 84]), .t 35], none⟩, ⟨some 6, .mov (.t 36), none⟩]) (.kl [2, 33, 34, 35, 36] (.ret)))))), [.tmp 6]⟩
/-- impl.within -/
def fi74 : FI := ⟨.seq (.reg [⟨some 6, .mov (.c (.bool false)), none⟩]) (.kl [6] (.seq (.reg [⟨some 7, .mov (.t 1), none⟩, ⟨some 8, .mov (.t 0), none⟩, ⟨some 9, .bin .leq (.t 7) (.t 8), none⟩, ⟨some 10, .mov (.t 9), none⟩, ⟨some 11, .mov (.t 0), some (10, true)⟩, ⟨some 12, .mov (.t 2), some (10, true)⟩, ⟨some 13, .bin .leq (.t 11) (.t 12), some (10, true)⟩, ⟨some 14, .pick (.t 10) (.t 13) (.c (.bool false)), none⟩, ⟨some 6, .mov (.t 14), none⟩]) (.kl [0, 1, 2, 7, 8, 9, 10, 11, 12, 13, 14] (.ret)))), [.tmp 6]⟩
/-- slices.ContainsFunc[[]impl.Clue,impl.Clue] -/
def fi177 : FI := ⟨.seq (.reg [⟨some 4, .mov (.c (.bool false)), none⟩]) (.kl [4] (.seq (.reg [⟨some 5, .mov (.t 0), none⟩, ⟨some 6, .mov (.t 1), none⟩, ⟨some 7, .call 182 [.t 5, .t 6], none⟩, ⟨some 8, .bin .geq (.t 7) (.c (.int .i64 0)), none⟩, ⟨some 4, .mov (.t 8), none⟩]) (.kl [0, 1, 5, 6, 7, 8] (.ret)))), [.tmp 4]⟩
/-- impl.IsPuzzle$1 -/
def fi176 : FI := ⟨.seq (.reg [⟨some 2, .box (.t 0), none⟩, ⟨some 3, .mov (.c (.bool false)), none⟩]) (.kl [0, 3] (.seq (.reg [⟨some 4, .faddr 0 1 (.t 1), none⟩, ⟨some 5, .load false 1 (.t 4), none⟩, ⟨some 6, .load true 3 (.t 2), none⟩, ⟨some 7, .call 183 [.t 5, .t 6], none⟩, ⟨some 8, .un .not (.t 7), none⟩, ⟨some 3, .mov (.t 8), none⟩]) (.kl [1, 2, 4, 5, 6, 7, 8] (.ret)))), [.tmp 3]⟩
/-- impl.count -/
def fi189 : FI := ⟨.seq (.reg [⟨some 2, .mov (.c (.int .i64 0)), none⟩, ⟨some 3, .mov (.c (.int .i64 0)), none⟩, ⟨some 4, .mov (.c (.int .i64 0)), none⟩]) (.kl [2, 3, 4] (.seq (.reg [⟨some 5, .mov (.t 0), none⟩, ⟨some 6, .call 131 [.t 5, .c (.str [84])], none⟩, ⟨some 7, .mov (.t 0), none⟩, ⟨some 8, .call 131 [.t 7, .c (.str [46])], none⟩, ⟨some 9, .mov (.t 0), none⟩, ⟨some 10, .call 131 [.t 9, .c (.str [70])], none⟩, ⟨some 2, .mov (.t 6), none⟩, ⟨some 3, .mov (.t 8), none⟩, ⟨some 4, .mov (.t 10), none⟩]) (.kl [0, 5, 6, 7, 8, 9, 10] (.ret)))), [.tmp 2, .tmp 3, .tmp 4]⟩
-- lp105_0 HEAD [0, 1, 5, 11, 12] | exit 0: [5]
/-- impl.moves -/
def lb105_0 : C := .kl [37] (.seq (.reg [⟨some 13, .bin .lss (.t 12) (.t 11), none⟩]) (.seq (.cond (.t 13) (.skip) (.kl [0, 1, 11, 12, 13] (.exit 0))) (.kl [13] (.seq (.blk 1 (.seq (.reg [⟨some 14, .mov (.t 12), none⟩, ⟨some 6, .mov (.t 14), none⟩]) (.kl [14] (.seq (.reg [⟨some 16, .mov (.t 0), none⟩, ⟨some 17, .mov (.t 6), none⟩, ⟨some 18, .call 127 [.t 16, .t 17], none⟩, ⟨some 15, .mov (.t 18), none⟩, ⟨some 19, .prj 0 (.t 15), none⟩, ⟨some 20, .prj 1 (.t 15), none⟩, ⟨some 7, .mov (.t 19), none⟩, ⟨some 8, .mov (.t 20), none⟩]) (.kl [15, 16, 17, 18, 19, 20] (.seq (.reg [⟨some 21, .mov (.t 8), none⟩, ⟨some 22, .mov (.t 21), none⟩, ⟨some 23, .mov (.t 1), some (22, true)⟩, ⟨some 24, .mov (.t 0), some (22, true)⟩, ⟨some 25, .mov (.t 6), some (22, true)⟩, ⟨some 26, .mov (.t 6), some (22, true)⟩, ⟨some 27, .bin .add (.t 26) (.c (.int .i64 1)), some (22, true)⟩, ⟨some 28, .subS (.t 24) (some (.t 25)) (some (.t 27)), some (22, true)⟩, ⟨some 29, .call 126 [.t 23, .t 28], some (22, true)⟩, ⟨some 30, .pick (.t 22) (.t 29) (.c (.bool false)), none⟩]) (.kl [8, 21, 22, 23, 24, 25, 26, 27, 28, 29] (.cond (.t 30) (.kl [30] (.reg [⟨some 31, .mov (.t 5), none⟩, ⟨some 32, .mov (.t 6), none⟩, ⟨some 33, .mov (.t 7), none⟩, ⟨some 34, .build [.int .i64 0, .int .i64 0] [(0, 1, .t 32), (1, 1, .t 33)], none⟩, ⟨some 35, .lit 2 1 [.int .i64 0, .int .i64 0] [(0, 2, .t 34)], none⟩, ⟨some 36, .app 2 (.t 31) (.t 35), none⟩, ⟨some 5, .mov (.t 36), none⟩])) (.skip))))))))) (.kl [6, 7, 30, 31, 32, 33, 34, 35, 36] (.reg [⟨some 37, .bin .add (.t 12) (.c (.int .i64 1)), none⟩, ⟨some 12, .mov (.t 37), none⟩]))))))
def lp105_0 : C := lb105_0
def fi105 : FI := ⟨.seq (.reg [⟨some 4, .mov (.c (.nilS)), none⟩]) (.kl [4] (.seq (.reg [⟨some 9, .lit0, none⟩, ⟨some 5, .mov (.t 9), none⟩]) (.kl [9] (.seq (.seq (.reg [⟨some 10, .mov (.t 0), none⟩, ⟨some 11, .lenS (.t 10), none⟩, ⟨some 12, .mov (.c (.int .i64 0)), none⟩]) (.kl [10] (.blk 0 (.loop lp105_0)))) (.seq (.reg [⟨some 38, .mov (.t 5), none⟩, ⟨some 4, .mov (.t 38), none⟩]) (.kl [5, 38] (.ret))))))), [.tmp 4]⟩
-- lp191_0 HEAD [0, 3, 4, 7, 8] | exit 0: [3]
/-- impl.pairs -/
def lb191_0 : C := .kl [23] (.seq (.reg [⟨some 9, .bin .lss (.t 8) (.t 7), none⟩]) (.seq (.cond (.t 9) (.skip) (.kl [0, 4, 7, 8, 9] (.exit 0))) (.kl [9] (.seq (.blk 1 (.seq (.reg [⟨some 10, .mov (.t 8), none⟩, ⟨some 5, .mov (.t 10), none⟩]) (.kl [10] (.seq (.reg [⟨some 11, .mov (.t 0), none⟩, ⟨some 12, .mov (.t 5), none⟩, ⟨some 13, .idxS (.t 11) (.t 12), none⟩]) (.kl [5, 11, 12] (.blk 2 (.seq (.reg [⟨some 15, .bin .eql (.t 13) (.c (.int .u8 84)), none⟩, ⟨some 14, .mov (.t 15), none⟩]) (.kl [15] (.cond (.t 14) (.kl [13, 14] (.reg [⟨some 16, .mov (.t 4), none⟩, ⟨some 17, .bin .add (.t 16) (.c (.int .i64 1)), none⟩, ⟨some 4, .mov (.t 17), none⟩])) (.kl [14] (.seq (.reg [⟨some 19, .bin .eql (.t 13) (.c (.int .u8 70)), none⟩, ⟨some 18, .mov (.t 19), none⟩]) (.kl [13, 19] (.cond (.t 18) (.kl [18] (.reg [⟨some 20, .mov (.t 3), none⟩, ⟨some 21, .mov (.t 4), none⟩, ⟨some 22, .bin .add (.t 20) (.t 21), none⟩, ⟨some 3, .mov (.t 22), none⟩])) (.skip)))))))))))))) (.kl [16, 17, 18, 20, 21, 22] (.reg [⟨some 23, .bin .add (.t 8) (.c (.int .i64 1)), none⟩, ⟨some 8, .mov (.t 23), none⟩]))))))
def lp191_0 : C := lb191_0
def fi191 : FI := ⟨.seq (.reg [⟨some 2, .mov (.c (.int .i64 0)), none⟩]) (.kl [2] (.seq (.reg [⟨some 3, .mov (.c (.int .i64 0)), none⟩, ⟨some 4, .mov (.c (.int .i64 0)), none⟩]) (.seq (.seq (.reg [⟨some 6, .mov (.t 0), none⟩, ⟨some 7, .lenS (.t 6), none⟩, ⟨some 8, .mov (.c (.int .i64 0)), none⟩]) (.kl [6] (.blk 0 (.loop lp191_0)))) (.seq (.reg [⟨some 24, .mov (.t 3), none⟩, ⟨some 2, .mov (.t 24), none⟩]) (.kl [3, 24] (.ret)))))), [.tmp 2]⟩
/-- impl.newGames -/
def fi192 : FI := ⟨.seq (.reg [⟨some 0, .new [.nilM], none⟩]) (.seq (.reg [⟨some 1, .mkmap, none⟩, ⟨some 2, .build [.nilM] [(0, 1, .t 1)], none⟩, ⟨none, .store 1 (.t 0) (.t 2), none⟩]) (.kl [1, 2] (.ret))), [.cell true 1 0]⟩
/-- (impl.games).outcome -/
def fi193 : FI := ⟨.seq (.reg [⟨some 2, .box (.t 0), none⟩, ⟨some 4, .mov (.c (.str [])), none⟩]) (.kl [0, 4] (.seq (.drw [⟨some 7, .load true 1 (.t 2), none⟩, ⟨some 8, .mov (.t 1), none⟩, ⟨some 9, .call 198 [.t 7, .t 8, .c (.bool true)], none⟩, ⟨some 10, .load true 1 (.t 2), none⟩, ⟨some 11, .mov (.t 1), none⟩, ⟨some 12, .call 198 [.t 10, .t 11, .c (.bool false)], none⟩, ⟨some 5, .mov (.t 9), none⟩, ⟨some 6, .mov (.t 12), none⟩] [(3, 2)]) (.kl [1, 2, 7, 8, 9, 10, 11, 12] (.seq (.blk 0 (.seq (.reg [⟨some 14, .mov (.t 5), none⟩, ⟨some 15, .mov (.t 14), none⟩, ⟨some 16, .mov (.t 6), some (15, true)⟩, ⟨some 17, .pick (.t 15) (.t 16) (.c (.bool false)), none⟩, ⟨some 13, .mov (.t 17), none⟩]) (.kl [14, 15, 16, 17] (.cond (.t 13) (.kl [5, 6, 13] (.seq (.reg [⟨some 4, .mov (.c (.str [49])), none⟩]) (.ret))) (.kl [13] (.seq (.reg [⟨some 19, .mov (.t 5), none⟩, ⟨some 18, .mov (.t 19), none⟩]) (.kl [5, 19] (.cond (.t 18) (.kl [6, 18] (.seq (.reg [⟨some 4, .mov (.c (.str [84])), none⟩]) (.ret))) (.kl [18] (.seq (.reg [⟨some 21, .mov (.t 6), none⟩, ⟨some 20, .mov (.t 21), none⟩]) (.kl [6, 21] (.cond (.t 20) (.kl [20] (.seq (.reg [⟨some 4, .mov (.c (.str [70])), none⟩]) (.ret))) (.skip))))))))))))) (.kl [20] (.seq (.reg [⟨some 4, .mov (.c (.str [50])), none⟩]) (.ret))))))), [.tmp 4]⟩
-- lp195_0 HEAD [0, 1, 7] | exit 0: [] | ret: [4]
/-- spec.pzIndex -/
def lb195_0 : C := .kl [5, 17] (.seq (.reg [⟨some 8, .nxt (.t 7), none⟩, ⟨some 9, .prj 0 (.t 8), none⟩]) (.seq (.cond (.t 9) (.skip) (.kl [0, 1, 7, 8, 9] (.exit 0))) (.kl [9] (.blk 1 (.seq (.reg [⟨some 10, .prj 1 (.t 8), none⟩, ⟨some 5, .mov (.t 10), none⟩]) (.kl [8, 10] (.seq (.reg [⟨some 11, .mov (.t 0), none⟩, ⟨some 12, .mov (.t 5), none⟩, ⟨some 13, .mov (.t 5), none⟩, ⟨some 14, .bin .add (.t 13) (.c (.int .i64 1)), none⟩, ⟨some 15, .subS (.t 11) (some (.t 12)) (some (.t 14)), none⟩, ⟨some 16, .mov (.t 1), none⟩, ⟨some 17, .bin .eql (.t 15) (.t 16), none⟩]) (.kl [11, 12, 13, 14, 15, 16] (.cond (.t 17) (.kl [0, 1, 7, 17] (.seq (.reg [⟨some 18, .mov (.t 5), none⟩, ⟨some 4, .mov (.t 18), none⟩]) (.kl [5, 18] (.ret)))) (.skip))))))))))
def lp195_0 : C := lb195_0
def fi195 : FI := ⟨.seq (.reg [⟨some 4, .mov (.c (.int .i64 0)), none⟩]) (.kl [4] (.seq (.seq (.reg [⟨some 6, .mov (.t 0), none⟩, ⟨some 7, .rng (.t 6), none⟩]) (.kl [6] (.blk 0 (.loop lp195_0)))) (.seq (.reg [⟨some 4, .mov (.c (.int .i64 0)), none⟩]) (.ret)))), [.tmp 4]⟩
-- lp116_0 HEAD [0, 1, 5, 6] | exit 0: [5]
/-- spec.liCount -/
def lb116_0 : C := .kl [11, 12] (.seq (.seq (.reg [⟨some 7, .mov (.t 6), none⟩, ⟨some 8, .mov (.t 0), none⟩, ⟨some 9, .lenS (.t 8), none⟩, ⟨some 10, .bin .lss (.t 7) (.t 9), none⟩]) (.kl [7, 8, 9] (.cond (.t 10) (.skip) (.kl [0, 1, 6, 10] (.exit 0))))) (.kl [10] (.seq (.blk 1 (.seq (.reg [⟨some 13, .mov (.t 0), none⟩, ⟨some 14, .mov (.t 6), none⟩, ⟨some 15, .idxS (.t 13) (.t 14), none⟩, ⟨some 16, .mov (.t 1), none⟩, ⟨some 17, .bin .eql (.t 15) (.t 16), none⟩]) (.kl [13, 14, 15, 16] (.cond (.t 17) (.kl [17] (.reg [⟨some 18, .mov (.t 5), none⟩, ⟨some 19, .bin .add (.t 18) (.c (.int .i64 1)), none⟩, ⟨some 5, .mov (.t 19), none⟩])) (.skip))))) (.kl [17, 18, 19] (.reg [⟨some 11, .mov (.t 6), none⟩, ⟨some 12, .bin .add (.t 11) (.c (.int .i64 1)), none⟩, ⟨some 6, .mov (.t 12), none⟩])))))
def lp116_0 : C := lb116_0
def fi116 : FI := ⟨.seq (.reg [⟨some 4, .mov (.c (.int .i64 0)), none⟩]) (.kl [4] (.seq (.reg [⟨some 5, .mov (.c (.int .i64 0)), none⟩]) (.seq (.seq (.reg [⟨some 6, .mov (.c (.int .i64 0)), none⟩]) (.blk 0 (.loop lp116_0))) (.seq (.reg [⟨some 20, .mov (.t 5), none⟩, ⟨some 4, .mov (.t 20), none⟩]) (.kl [5, 20] (.ret)))))), [.tmp 4]⟩
-- lp119_0 HEAD [0, 1, 2, 7, 12] | exit 0: [7] | exit 1: [0, 1, 2, 7, 12] | exit 2: [0, 1, 2, 7, 12]
-- lp119_1 HEAD [0, 1, 2, 7, 8, 9, 12] | exit 2: [0, 1, 2, 7, 12]
/-- spec.liMoves -/
def lb119_1 : C := .kl [40, 41] (.seq (.seq (.reg [⟨some 36, .mov (.t 9), none⟩, ⟨some 37, .mov (.t 8), none⟩, ⟨some 38, .bin .add (.t 37) (.c (.int .i64 2)), none⟩, ⟨some 39, .bin .leq (.t 36) (.t 38), none⟩]) (.kl [36, 37, 38] (.cond (.t 39) (.skip) (.kl [8, 9, 39] (.exit 2))))) (.kl [39] (.seq (.blk 3 (.seq (.reg [⟨some 42, .mov (.t 8), none⟩, ⟨some 43, .mov (.t 9), none⟩, ⟨some 44, .build [.int .i64 0, .int .i64 0] [(0, 1, .t 42), (1, 1, .t 43)], none⟩, ⟨some 10, .new [.int .i64 0, .int .i64 0], none⟩, ⟨none, .store 2 (.t 10) (.t 44), none⟩]) (.kl [42, 43, 44] (.seq (.reg [⟨some 45, .mov (.t 0), none⟩, ⟨some 46, .load true 2 (.t 10), none⟩, ⟨some 47, .call 130 [.t 45, .t 46], none⟩]) (.kl [45, 46] (.cond (.t 47) (.kl [47] (.reg [⟨some 48, .mov (.t 7), none⟩, ⟨some 49, .load true 2 (.t 10), none⟩, ⟨some 50, .lit 2 1 [.int .i64 0, .int .i64 0] [(0, 2, .t 49)], none⟩, ⟨some 51, .app 2 (.t 48) (.t 50), none⟩, ⟨some 7, .mov (.t 51), none⟩])) (.skip))))))) (.kl [10, 47, 48, 49, 50, 51] (.reg [⟨some 40, .mov (.t 9), none⟩, ⟨some 41, .bin .add (.t 40) (.c (.int .i64 1)), none⟩, ⟨some 9, .mov (.t 41), none⟩])))))
def lp119_1 : C := lb119_1
def lb119_0 : C := .kl [] (.seq (.reg [⟨some 13, .nxt (.t 12), none⟩, ⟨some 14, .prj 0 (.t 13), none⟩]) (.seq (.cond (.t 14) (.skip) (.kl [0, 1, 2, 12, 13, 14] (.exit 0))) (.kl [14] (.blk 1 (.seq (.reg [⟨some 15, .prj 1 (.t 13), none⟩, ⟨some 8, .mov (.t 15), none⟩]) (.kl [13, 15] (.seq (.seq (.reg [⟨some 16, .mov (.t 0), none⟩, ⟨some 17, .mov (.t 8), none⟩, ⟨some 18, .idxS (.t 16) (.t 17), none⟩, ⟨some 19, .bin .eql (.t 18) (.c (.int .u8 84)), none⟩, ⟨some 20, .mov (.t 19), none⟩, ⟨some 21, .mov (.t 1), some (20, true)⟩, ⟨some 22, .un .not (.t 21), some (20, true)⟩, ⟨some 23, .pick (.t 20) (.t 22) (.c (.bool false)), none⟩, ⟨some 24, .mov (.t 23), none⟩, ⟨some 25, .mov (.t 0), some (24, false)⟩, ⟨some 26, .mov (.t 8), some (24, false)⟩, ⟨some 27, .idxS (.t 25) (.t 26), some (24, false)⟩, ⟨some 28, .bin .eql (.t 27) (.c (.int .u8 70)), some (24, false)⟩, ⟨some 29, .mov (.t 28), some (24, false)⟩, ⟨some 30, .mov (.t 2), some (29, true)⟩, ⟨some 31, .un .not (.t 30), some (29, true)⟩, ⟨some 32, .pick (.t 29) (.t 31) (.c (.bool false)), some (24, false)⟩, ⟨some 33, .pick (.t 24) (.c (.bool true)) (.t 32), none⟩]) (.kl [16, 17, 18, 19, 20, 21, 22, 23, 24, 25, 26, 27, 28, 29, 30, 31, 32] (.cond (.t 33) (.kl [8, 33] (.exit 1)) (.skip)))) (.kl [33] (.seq (.reg [⟨some 34, .mov (.t 8), none⟩, ⟨some 35, .bin .sub (.t 34) (.c (.int .i64 2)), none⟩, ⟨some 9, .mov (.t 35), none⟩]) (.kl [34, 35] (.blk 2 (.loop lp119_1))))))))))))
def lp119_0 : C := lb119_0
def fi119 : FI := ⟨.seq (.reg [⟨some 6, .mov (.c (.nilS)), none⟩]) (.kl [6] (.seq (.reg [⟨some 7, .mov (.c (.nilS)), none⟩]) (.seq (.seq (.reg [⟨some 11, .mov (.t 0), none⟩, ⟨some 12, .rng (.t 11), none⟩]) (.kl [11] (.blk 0 (.loop lp119_0)))) (.seq (.reg [⟨some 52, .mov (.t 7), none⟩, ⟨some 6, .mov (.t 52), none⟩]) (.kl [7, 52] (.ret)))))), [.tmp 6]⟩
-- lp196_0 HEAD [0, 3, 4, 5] | exit 0: [3]
/-- spec.liPairs -/
def lb196_0 : C := .kl [10, 11] (.seq (.seq (.reg [⟨some 6, .mov (.t 5), none⟩, ⟨some 7, .mov (.t 0), none⟩, ⟨some 8, .lenS (.t 7), none⟩, ⟨some 9, .bin .lss (.t 6) (.t 8), none⟩]) (.kl [6, 7, 8] (.cond (.t 9) (.skip) (.kl [0, 4, 5, 9] (.exit 0))))) (.kl [9] (.seq (.blk 1 (.seq (.reg [⟨some 12, .mov (.t 0), none⟩, ⟨some 13, .mov (.t 5), none⟩, ⟨some 14, .idxS (.t 12) (.t 13), none⟩]) (.kl [12, 13] (.blk 2 (.seq (.reg [⟨some 16, .bin .eql (.t 14) (.c (.int .u8 84)), none⟩, ⟨some 15, .mov (.t 16), none⟩]) (.kl [16] (.cond (.t 15) (.kl [14, 15] (.reg [⟨some 17, .mov (.t 4), none⟩, ⟨some 18, .bin .add (.t 17) (.c (.int .i64 1)), none⟩, ⟨some 4, .mov (.t 18), none⟩])) (.kl [15] (.seq (.reg [⟨some 20, .bin .eql (.t 14) (.c (.int .u8 70)), none⟩, ⟨some 19, .mov (.t 20), none⟩]) (.kl [14, 20] (.cond (.t 19) (.kl [19] (.reg [⟨some 21, .mov (.t 3), none⟩, ⟨some 22, .mov (.t 4), none⟩, ⟨some 23, .bin .add (.t 21) (.t 22), none⟩, ⟨some 3, .mov (.t 23), none⟩])) (.skip)))))))))))) (.kl [17, 18, 19, 21, 22, 23] (.reg [⟨some 10, .mov (.t 5), none⟩, ⟨some 11, .bin .add (.t 10) (.c (.int .i64 1)), none⟩, ⟨some 5, .mov (.t 11), none⟩])))))
def lp196_0 : C := lb196_0
def fi196 : FI := ⟨.seq (.reg [⟨some 2, .mov (.c (.int .i64 0)), none⟩]) (.kl [2] (.seq (.reg [⟨some 3, .mov (.c (.int .i64 0)), none⟩, ⟨some 4, .mov (.c (.int .i64 0)), none⟩]) (.seq (.seq (.reg [⟨some 5, .mov (.c (.int .i64 0)), none⟩]) (.blk 0 (.loop lp196_0))) (.seq (.reg [⟨some 24, .mov (.t 3), none⟩, ⟨some 2, .mov (.t 24), none⟩]) (.kl [3, 24] (.ret)))))), [.tmp 2]⟩
/-- spec.gaOutcome -/
def fi197 : FI := ⟨.seq (.reg [⟨some 2, .mov (.c (.str [])), none⟩]) (.kl [2] (.seq (.reg [⟨some 6, .build [.nilS, .nilS] [], none⟩, ⟨some 7, .box (.t 6), none⟩, ⟨some 3, .mov (.t 7), none⟩]) (.kl [6, 7] (.seq (.reg [⟨some 8, .mov (.t 3), none⟩, ⟨some 9, .mov (.t 0), none⟩, ⟨some 10, .call 199 [.t 8, .t 9, .c (.bool true)], none⟩, ⟨some 11, .mov (.t 3), none⟩, ⟨some 12, .mov (.t 0), none⟩, ⟨some 13, .call 199 [.t 11, .t 12, .c (.bool false)], none⟩, ⟨some 4, .mov (.t 10), none⟩, ⟨some 5, .mov (.t 13), none⟩]) (.kl [0, 3, 8, 9, 10, 11, 12, 13] (.seq (.blk 0 (.seq (.reg [⟨some 15, .mov (.t 4), none⟩, ⟨some 16, .mov (.t 15), none⟩, ⟨some 17, .mov (.t 5), some (16, true)⟩, ⟨some 18, .pick (.t 16) (.t 17) (.c (.bool false)), none⟩, ⟨some 14, .mov (.t 18), none⟩]) (.kl [15, 16, 17, 18] (.cond (.t 14) (.kl [4, 5, 14] (.seq (.reg [⟨some 2, .mov (.c (.str [49])), none⟩]) (.ret))) (.kl [14] (.seq (.reg [⟨some 20, .mov (.t 4), none⟩, ⟨some 19, .mov (.t 20), none⟩]) (.kl [4, 20] (.cond (.t 19) (.kl [5, 19] (.seq (.reg [⟨some 2, .mov (.c (.str [84])), none⟩]) (.ret))) (.kl [19] (.seq (.reg [⟨some 22, .mov (.t 5), none⟩, ⟨some 21, .mov (.t 22), none⟩]) (.kl [5, 22] (.cond (.t 21) (.kl [21] (.seq (.reg [⟨some 2, .mov (.c (.str [70])), none⟩]) (.ret))) (.skip))))))))))))) (.kl [21] (.seq (.reg [⟨some 2, .mov (.c (.str [50])), none⟩]) (.ret))))))))), [.tmp 2]⟩
-- lp182_0 HEAD [0, 1, 7, 8] | exit 0: [] | ret: [4]
/-- slices.IndexFunc[[]impl.Clue,impl.Clue] -/
def lb182_0 : C := .kl [18] (.seq (.reg [⟨some 9, .bin .lss (.t 8) (.t 7), none⟩]) (.seq (.cond (.t 9) (.skip) (.kl [0, 1, 7, 8, 9] (.exit 0))) (.kl [9] (.seq (.blk 1 (.seq (.reg [⟨some 10, .mov (.t 8), none⟩, ⟨some 5, .mov (.t 10), none⟩]) (.kl [10] (.seq (.reg [⟨some 11, .mov (.t 1), none⟩, ⟨some 12, .mov (.t 0), none⟩, ⟨some 13, .mov (.t 5), none⟩, ⟨some 14, .iaddr 3 (.t 12) (.t 13), none⟩, ⟨some 15, .load true 3 (.t 14), none⟩, ⟨some 16, .callv (.t 11) [.t 15], none⟩]) (.kl [11, 12, 13, 14, 15] (.cond (.t 16) (.kl [0, 1, 7, 8, 16] (.seq (.reg [⟨some 17, .mov (.t 5), none⟩, ⟨some 4, .mov (.t 17), none⟩]) (.kl [5, 17] (.ret)))) (.skip))))))) (.kl [5, 16] (.reg [⟨some 18, .bin .add (.t 8) (.c (.int .i64 1)), none⟩, ⟨some 8, .mov (.t 18), none⟩]))))))
def lp182_0 : C := lb182_0
def fi182 : FI := ⟨.seq (.reg [⟨some 4, .mov (.c (.int .i64 0)), none⟩]) (.kl [4] (.seq (.seq (.reg [⟨some 6, .mov (.t 0), none⟩, ⟨some 7, .lenV (.t 6), none⟩, ⟨some 8, .mov (.c (.int .i64 0)), none⟩]) (.kl [6] (.blk 0 (.loop lp182_0)))) (.seq (.reg [⟨some 4, .mov (.c (.int .i64 (-1))), none⟩]) (.ret)))), [.tmp 4]⟩
/-- impl.goal -/
def fi127 : FI := ⟨.seq (.reg [⟨some 4, .mov (.c (.int .i64 0)), none⟩, ⟨some 5, .mov (.c (.bool false)), none⟩]) (.kl [4, 5] (.seq (.reg [⟨some 7, .mov (.t 0), none⟩, ⟨some 8, .mov (.t 1), none⟩, ⟨some 9, .idxS (.t 7) (.t 8), none⟩, ⟨some 10, .call 103 [.t 9], none⟩, ⟨some 6, .mov (.t 10), none⟩]) (.kl [7, 8, 9, 10] (.seq (.blk 0 (.seq (.reg [⟨some 12, .mov (.t 6), none⟩, ⟨some 13, .bin .eql (.t 12) (.c (.int .i64 0)), none⟩, ⟨some 11, .mov (.t 13), none⟩]) (.kl [12, 13] (.cond (.t 11) (.skip) (.kl [11] (.seq (.reg [⟨some 15, .mov (.t 0), none⟩, ⟨some 16, .mov (.t 1), none⟩, ⟨some 17, .mov (.t 6), none⟩, ⟨some 18, .bin .add (.t 16) (.t 17), none⟩, ⟨some 19, .call 125 [.t 15, .t 18], none⟩, ⟨some 20, .bin .eql (.t 19) (.c (.int .u8 46)), none⟩, ⟨some 14, .mov (.t 20), none⟩]) (.kl [15, 16, 17, 18, 19, 20] (.cond (.t 14) (.kl [0, 14] (.seq (.reg [⟨some 21, .mov (.t 1), none⟩, ⟨some 22, .mov (.t 6), none⟩, ⟨some 23, .bin .add (.t 21) (.t 22), none⟩, ⟨some 4, .mov (.t 23), none⟩, ⟨some 5, .mov (.c (.bool true)), none⟩]) (.kl [1, 6, 21, 22, 23] (.ret)))) (.kl [14] (.seq (.drw [⟨some 25, .mov (.t 0), none⟩, ⟨some 26, .mov (.t 1), none⟩, ⟨some 27, .mov (.t 6), none⟩, ⟨some 28, .bin .add (.t 26) (.t 27), none⟩, ⟨some 29, .call 125 [.t 25, .t 28], none⟩, ⟨some 30, .mov (.t 0), none⟩, ⟨some 31, .mov (.t 1), none⟩, ⟨some 32, .idxS (.t 30) (.t 31), none⟩, ⟨some 33, .call 109 [.t 32], none⟩, ⟨some 34, .bin .eql (.t 29) (.t 33), none⟩, ⟨some 35, .mov (.t 34), none⟩, ⟨some 36, .mov (.t 0), some (35, true)⟩, ⟨some 37, .mov (.t 1), some (35, true)⟩, ⟨some 38, .mov (.t 6), some (35, true)⟩, ⟨some 39, .bin .mul (.c (.int .i64 2)) (.t 38), some (35, true)⟩, ⟨some 40, .bin .add (.t 37) (.t 39), some (35, true)⟩, ⟨some 41, .call 125 [.t 36, .t 40], some (35, true)⟩, ⟨some 42, .bin .eql (.t 41) (.c (.int .u8 46)), some (35, true)⟩, ⟨some 43, .pick (.t 35) (.t 42) (.c (.bool false)), none⟩, ⟨some 24, .mov (.t 43), none⟩] []) (.kl [0, 25, 26, 27, 28, 29, 30, 31, 32, 33, 34, 35, 36, 37, 38, 39, 40, 41, 42, 43] (.cond (.t 24) (.kl [24] (.seq (.reg [⟨some 44, .mov (.t 1), none⟩, ⟨some 45, .mov (.t 6), none⟩, ⟨some 46, .bin .mul (.c (.int .i64 2)) (.t 45), none⟩, ⟨some 47, .bin .add (.t 44) (.t 46), none⟩, ⟨some 4, .mov (.t 47), none⟩, ⟨some 5, .mov (.c (.bool true)), none⟩]) (.kl [1, 6, 44, 45, 46, 47] (.ret)))) (.skip))))))))))))) (.kl [0, 1, 6, 11, 24] (.seq (.reg [⟨some 4, .mov (.c (.int .i64 0)), none⟩, ⟨some 5, .mov (.c (.bool false)), none⟩]) (.ret))))))), [.tmp 4, .tmp 5]⟩
/-- (impl.games).win -/
def fi198 : FI := ⟨.seq (.reg [⟨some 3, .box (.t 0), none⟩, ⟨some 4, .box (.t 1), none⟩, ⟨some 5, .box (.t 2), none⟩, ⟨some 6, .mov (.c (.bool false)), none⟩]) (.kl [0, 1, 2, 6] (.seq (.drw [⟨some 11, .load false 1 (.t 5), none⟩, ⟨some 12, .call 200 [.t 11], none⟩, ⟨some 13, .load false 1 (.t 4), none⟩, ⟨some 14, .bin .add (.t 12) (.t 13), none⟩, ⟨some 7, .mov (.t 14), none⟩] [(2, 1)]) (.kl [11, 12, 13, 14] (.seq (.seq (.reg [⟨some 16, .faddr 0 1 (.t 3), none⟩, ⟨some 17, .load false 1 (.t 16), none⟩, ⟨some 18, .mov (.t 7), none⟩, ⟨some 19, .look 1 (.bool false) true (.t 17) (.t 18), none⟩, ⟨some 15, .mov (.t 19), none⟩, ⟨some 20, .prj 0 (.t 15), none⟩, ⟨some 21, .prj 1 (.t 15), none⟩, ⟨some 8, .mov (.t 20), none⟩, ⟨some 9, .mov (.t 21), none⟩]) (.kl [15, 16, 17, 18, 19, 20, 21] (.seq (.reg [⟨some 22, .mov (.t 9), none⟩]) (.kl [9] (.cond (.t 22) (.kl [3, 4, 5, 7, 22] (.seq (.reg [⟨some 23, .mov (.t 8), none⟩, ⟨some 6, .mov (.t 23), none⟩]) (.kl [8, 23] (.ret)))) (.skip)))))) (.kl [8, 22] (.seq (.drw [⟨some 24, .load false 1 (.t 4), none⟩, ⟨some 25, .load false 1 (.t 5), none⟩, ⟨some 26, .call 200 [.t 25], none⟩, ⟨some 27, .call 105 [.t 24, .t 26], none⟩, ⟨some 28, .mkfn 201 [.t 3, .t 4, .t 5], none⟩, ⟨some 29, .call 202 [.t 27, .t 28], none⟩, ⟨some 10, .mov (.t 29), none⟩] [(0, 2)]) (.kl [4, 5, 24, 25, 26, 27, 28, 29] (.seq (.reg [⟨some 30, .faddr 0 1 (.t 3), none⟩, ⟨some 31, .load false 1 (.t 30), none⟩, ⟨some 32, .mov (.t 7), none⟩, ⟨some 33, .mov (.t 10), none⟩, ⟨none, .mset 1 (.t 31) (.t 32) (.t 33), none⟩]) (.kl [3, 7, 30, 31, 32, 33] (.seq (.reg [⟨some 34, .mov (.t 10), none⟩, ⟨some 6, .mov (.t 34), none⟩]) (.kl [10, 34] (.ret)))))))))))), [.tmp 6]⟩
/-- spec.liCan -/
def fi130 : FI := ⟨.seq (.reg [⟨some 3, .box (.t 1), none⟩, ⟨some 4, .mov (.c (.bool false)), none⟩]) (.kl [1, 4] (.seq (.seq (.reg [⟨some 7, .faddr 0 1 (.t 3), none⟩, ⟨some 8, .load false 1 (.t 7), none⟩, ⟨some 9, .mov (.t 0), none⟩, ⟨some 10, .lenS (.t 9), none⟩, ⟨some 11, .bin .sub (.t 10) (.c (.int .i64 1)), none⟩, ⟨some 12, .call 77 [.t 8, .c (.int .i64 0), .t 11], none⟩, ⟨some 13, .un .not (.t 12), none⟩, ⟨some 14, .mov (.t 13), none⟩, ⟨some 15, .faddr 1 1 (.t 3), some (14, false)⟩, ⟨some 16, .load false 1 (.t 15), some (14, false)⟩, ⟨some 17, .mov (.t 0), some (14, false)⟩, ⟨some 18, .lenS (.t 17), some (14, false)⟩, ⟨some 19, .bin .sub (.t 18) (.c (.int .i64 1)), some (14, false)⟩, ⟨some 20, .call 77 [.t 16, .c (.int .i64 0), .t 19], some (14, false)⟩, ⟨some 21, .un .not (.t 20), some (14, false)⟩, ⟨some 22, .pick (.t 14) (.c (.bool true)) (.t 21), none⟩, ⟨some 23, .mov (.t 22), none⟩, ⟨some 24, .mov (.t 0), some (23, false)⟩, ⟨some 25, .faddr 1 1 (.t 3), some (23, false)⟩, ⟨some 26, .load false 1 (.t 25), some (23, false)⟩, ⟨some 27, .idxS (.t 24) (.t 26), some (23, false)⟩, ⟨some 28, .bin .neq (.t 27) (.c (.int .u8 46)), some (23, false)⟩, ⟨some 29, .pick (.t 23) (.c (.bool true)) (.t 28), none⟩]) (.kl [7, 8, 9, 10, 11, 12, 13, 14, 15, 16, 17, 18, 19, 20, 21, 22, 23, 24, 25, 26, 27, 28] (.cond (.t 29) (.kl [0, 3, 29] (.seq (.reg [⟨some 4, .mov (.c (.bool false)), none⟩]) (.ret))) (.skip)))) (.kl [29] (.seq (.reg [⟨some 5, .mov (.c (.int .i64 1)), none⟩, ⟨some 6, .mov (.c (.int .u8 70)), none⟩]) (.seq (.seq (.reg [⟨some 30, .mov (.t 0), none⟩, ⟨some 31, .faddr 0 1 (.t 3), none⟩, ⟨some 32, .load false 1 (.t 31), none⟩, ⟨some 33, .idxS (.t 30) (.t 32), none⟩]) (.kl [30, 31, 32] (.blk 0 (.seq (.reg [⟨some 35, .bin .eql (.t 33) (.c (.int .u8 84)), none⟩, ⟨some 34, .mov (.t 35), none⟩]) (.kl [35] (.cond (.t 34) (.skip) (.kl [5, 6, 34] (.seq (.reg [⟨some 37, .bin .eql (.t 33) (.c (.int .u8 70)), none⟩, ⟨some 36, .mov (.t 37), none⟩]) (.kl [33, 37] (.cond (.t 36) (.kl [36] (.seq (.reg [⟨some 5, .mov (.c (.int .i64 (-1))), none⟩]) (.reg [⟨some 6, .mov (.c (.int .u8 84)), none⟩]))) (.kl [0, 3, 36] (.seq (.reg [⟨some 4, .mov (.c (.bool false)), none⟩]) (.ret))))))))))))) (.kl [33, 34] (.seq (.reg [⟨some 38, .faddr 1 1 (.t 3), none⟩, ⟨some 39, .load false 1 (.t 38), none⟩, ⟨some 40, .faddr 0 1 (.t 3), none⟩, ⟨some 41, .load false 1 (.t 40), none⟩, ⟨some 42, .mov (.t 5), none⟩, ⟨some 43, .bin .add (.t 41) (.t 42), none⟩, ⟨some 44, .bin .eql (.t 39) (.t 43), none⟩, ⟨some 45, .mov (.t 44), none⟩, ⟨some 46, .faddr 1 1 (.t 3), some (45, false)⟩, ⟨some 47, .load false 1 (.t 46), some (45, false)⟩, ⟨some 48, .faddr 0 1 (.t 3), some (45, false)⟩, ⟨some 49, .load false 1 (.t 48), some (45, false)⟩, ⟨some 50, .mov (.t 5), some (45, false)⟩, ⟨some 51, .bin .mul (.c (.int .i64 2)) (.t 50), some (45, false)⟩, ⟨some 52, .bin .add (.t 49) (.t 51), some (45, false)⟩, ⟨some 53, .bin .eql (.t 47) (.t 52), some (45, false)⟩, ⟨some 54, .mov (.t 53), some (45, false)⟩, ⟨some 55, .mov (.t 0), some (54, true)⟩, ⟨some 56, .faddr 0 1 (.t 3), some (54, true)⟩, ⟨some 57, .load false 1 (.t 56), some (54, true)⟩, ⟨some 58, .mov (.t 5), some (54, true)⟩, ⟨some 59, .bin .add (.t 57) (.t 58), some (54, true)⟩, ⟨some 60, .idxS (.t 55) (.t 59), some (54, true)⟩, ⟨some 61, .mov (.t 6), some (54, true)⟩, ⟨some 62, .bin .eql (.t 60) (.t 61), some (54, true)⟩, ⟨some 63, .pick (.t 54) (.t 62) (.c (.bool false)), some (45, false)⟩, ⟨some 64, .pick (.t 45) (.c (.bool true)) (.t 63), none⟩, ⟨some 4, .mov (.t 64), none⟩]) (.kl [0, 3, 5, 6, 38, 39, 40, 41, 42, 43, 44, 45, 46, 47, 48, 49, 50, 51, 52, 53, 54, 55, 56, 57, 58, 59, 60, 61, 62, 63, 64] (.ret))))))))), [.tmp 4]⟩
-- lp199_0 HEAD [0, 1, 2, 7, 21, 22, 23] | exit 0: [0, 1, 2, 7] | ret: [6]
-- lp199_1 HEAD [0, 1, 2, 7, 10, 39, 40, 41] | exit 2: [0, 7, 10] | exit 4: [0, 1, 2, 7, 10, 39, 40, 41]
-- lp199_2 HEAD [0, 1, 2, 7, 10, 11, 12, 39, 40, 41, 50, 51, 52] | exit 4: [0, 1, 2, 7, 10, 39, 40, 41]
/-- (*spec.gaKnown).win -/
def lb199_2 : C := .kl [67] (.seq (.reg [⟨some 53, .bin .lss (.t 52) (.t 51), none⟩]) (.seq (.cond (.t 53) (.skip) (.kl [11, 12, 50, 51, 52, 53] (.exit 4))) (.kl [53] (.seq (.blk 5 (.seq (.reg [⟨some 54, .iaddr 2 (.t 50) (.t 52), none⟩, ⟨some 55, .load true 2 (.t 54), none⟩, ⟨some 14, .new [.int .i64 0, .int .i64 0], none⟩, ⟨none, .store 2 (.t 14) (.t 55), none⟩]) (.kl [54, 55] (.seq (.reg [⟨some 56, .mov (.t 0), none⟩, ⟨some 57, .mov (.t 1), none⟩, ⟨some 58, .mov (.t 11), none⟩, ⟨some 59, .mov (.t 12), none⟩, ⟨some 60, .load true 2 (.t 14), none⟩, ⟨some 61, .call 66 [.t 59, .t 60], none⟩, ⟨some 62, .call 204 [.t 57, .t 58, .t 61], none⟩, ⟨some 63, .mov (.t 2), none⟩, ⟨some 64, .un .not (.t 63), none⟩, ⟨some 65, .call 199 [.t 56, .t 62, .t 64], none⟩, ⟨some 66, .un .not (.t 65), none⟩]) (.kl [14, 56, 57, 58, 59, 60, 61, 62, 63, 64, 65] (.cond (.t 66) (.kl [10, 11, 12, 50, 51, 52, 66] (.seq (.reg [⟨some 10, .mov (.c (.bool true)), none⟩]) (.exit 4))) (.skip))))))) (.kl [66] (.reg [⟨some 67, .bin .add (.t 52) (.c (.int .i64 1)), none⟩, ⟨some 52, .mov (.t 67), none⟩]))))))
def lp199_2 : C := lb199_2
def lb199_1 : C := .kl [69] (.seq (.reg [⟨some 42, .bin .lss (.t 41) (.t 40), none⟩]) (.seq (.cond (.t 42) (.skip) (.kl [1, 2, 39, 40, 41, 42] (.exit 2))) (.kl [42] (.seq (.blk 3 (.seq (.reg [⟨some 43, .mov (.t 41), none⟩, ⟨some 44, .iaddr 1 (.t 39) (.t 41), none⟩, ⟨some 45, .load false 1 (.t 44), none⟩, ⟨some 11, .mov (.t 43), none⟩, ⟨some 12, .mov (.t 45), none⟩]) (.kl [43, 44, 45] (.seq (.seq (.reg [⟨some 46, .mov (.t 12), none⟩, ⟨some 47, .mov (.t 2), none⟩, ⟨some 48, .mov (.t 2), none⟩, ⟨some 49, .un .not (.t 48), none⟩, ⟨some 50, .call 119 [.t 46, .t 47, .t 49], none⟩, ⟨some 51, .lenV (.t 50), none⟩, ⟨some 52, .mov (.c (.int .i64 0)), none⟩]) (.kl [46, 47, 48, 49] (.blk 4 (.loop lp199_2)))) (.seq (.reg [⟨some 68, .mov (.t 10), none⟩]) (.cond (.t 68) (.kl [1, 2, 39, 40, 41, 68] (.exit 2)) (.skip))))))) (.kl [68] (.reg [⟨some 69, .bin .add (.t 41) (.c (.int .i64 1)), none⟩, ⟨some 41, .mov (.t 69), none⟩]))))))
def lp199_1 : C := lb199_1
def lb199_0 : C := .kl [38] (.seq (.reg [⟨some 24, .bin .lss (.t 23) (.t 22), none⟩]) (.seq (.cond (.t 24) (.skip) (.kl [21, 22, 23, 24] (.exit 0))) (.kl [24] (.seq (.blk 1 (.seq (.reg [⟨some 25, .mov (.t 23), none⟩, ⟨some 26, .iaddr 1 (.t 21) (.t 23), none⟩, ⟨some 27, .load false 1 (.t 26), none⟩, ⟨some 8, .mov (.t 25), none⟩, ⟨some 9, .mov (.t 27), none⟩]) (.kl [25, 26, 27] (.seq (.reg [⟨some 28, .mov (.t 9), none⟩, ⟨some 29, .mov (.t 7), none⟩, ⟨some 30, .bin .eql (.t 28) (.t 29), none⟩]) (.kl [9, 28, 29] (.cond (.t 30) (.kl [1, 2, 7, 21, 22, 23, 30] (.seq (.reg [⟨some 31, .mov (.t 0), none⟩, ⟨some 32, .nck (.t 31), none⟩, ⟨some 33, .faddr 1 1 (.t 32), none⟩, ⟨some 34, .load false 1 (.t 33), none⟩, ⟨some 35, .mov (.t 8), none⟩, ⟨some 36, .iaddr 1 (.t 34) (.t 35), none⟩, ⟨some 37, .load false 1 (.t 36), none⟩, ⟨some 6, .mov (.t 37), none⟩]) (.kl [0, 8, 31, 32, 33, 34, 35, 36, 37] (.ret)))) (.skip))))))) (.kl [8, 30] (.reg [⟨some 38, .bin .add (.t 23) (.c (.int .i64 1)), none⟩, ⟨some 23, .mov (.t 38), none⟩]))))))
def lp199_0 : C := lb199_0
def fi199 : FI := ⟨.seq (.reg [⟨some 6, .mov (.c (.bool false)), none⟩]) (.kl [6] (.seq (.reg [⟨some 15, .mov (.t 1), none⟩, ⟨some 16, .mov (.t 2), none⟩, ⟨some 17, .call 203 [.t 15, .t 16], none⟩, ⟨some 7, .mov (.t 17), none⟩]) (.kl [15, 16, 17] (.seq (.seq (.reg [⟨some 18, .mov (.t 0), none⟩, ⟨some 19, .nck (.t 18), none⟩, ⟨some 20, .faddr 0 1 (.t 19), none⟩, ⟨some 21, .load false 1 (.t 20), none⟩, ⟨some 22, .lenV (.t 21), none⟩, ⟨some 23, .mov (.c (.int .i64 0)), none⟩]) (.kl [18, 19, 20] (.blk 0 (.loop lp199_0)))) (.seq (.reg [⟨some 10, .mov (.c (.bool false)), none⟩]) (.seq (.seq (.reg [⟨some 39, .mov (.t 1), none⟩, ⟨some 40, .lenV (.t 39), none⟩, ⟨some 41, .mov (.c (.int .i64 0)), none⟩]) (.blk 2 (.loop lp199_1))) (.seq (.reg [⟨some 70, .mov (.t 0), none⟩, ⟨some 71, .mov (.t 0), none⟩, ⟨some 72, .nck (.t 71), none⟩, ⟨some 73, .faddr 0 1 (.t 72), none⟩, ⟨some 74, .load false 1 (.t 73), none⟩, ⟨some 75, .mov (.t 7), none⟩, ⟨some 76, .lit 1 1 [.str []] [(0, 1, .t 75)], none⟩, ⟨some 77, .app 1 (.t 74) (.t 76), none⟩, ⟨some 78, .nck (.t 70), none⟩, ⟨some 79, .faddr 0 1 (.t 78), none⟩, ⟨none, .store 1 (.t 79) (.t 77), none⟩]) (.kl [7, 70, 71, 72, 73, 74, 75, 76, 77, 78, 79] (.seq (.reg [⟨some 80, .mov (.t 0), none⟩, ⟨some 81, .mov (.t 0), none⟩, ⟨some 82, .nck (.t 81), none⟩, ⟨some 83, .faddr 1 1 (.t 82), none⟩, ⟨some 84, .load false 1 (.t 83), none⟩, ⟨some 85, .mov (.t 10), none⟩, ⟨some 86, .lit 1 1 [.bool false] [(0, 1, .t 85)], none⟩, ⟨some 87, .app 1 (.t 84) (.t 86), none⟩, ⟨some 88, .nck (.t 80), none⟩, ⟨some 89, .faddr 1 1 (.t 88), none⟩, ⟨none, .store 1 (.t 89) (.t 87), none⟩]) (.kl [0, 80, 81, 82, 83, 84, 85, 86, 87, 88, 89] (.seq (.reg [⟨some 90, .mov (.t 10), none⟩, ⟨some 6, .mov (.t 90), none⟩]) (.kl [10, 90] (.ret))))))))))))), [.tmp 6]⟩
/-- impl.stepOf -/
def fi103 : FI := ⟨.seq (.reg [⟨some 2, .mov (.c (.int .i64 0)), none⟩]) (.kl [2] (.seq (.seq (.reg [⟨some 3, .mov (.t 0), none⟩]) (.kl [0] (.blk 0 (.seq (.reg [⟨some 5, .bin .eql (.t 3) (.c (.int .u8 84)), none⟩, ⟨some 4, .mov (.t 5), none⟩]) (.kl [5] (.cond (.t 4) (.kl [3, 4] (.seq (.reg [⟨some 2, .mov (.c (.int .i64 1)), none⟩]) (.ret))) (.kl [4] (.seq (.reg [⟨some 7, .bin .eql (.t 3) (.c (.int .u8 70)), none⟩, ⟨some 6, .mov (.t 7), none⟩]) (.kl [3, 7] (.cond (.t 6) (.kl [6] (.seq (.reg [⟨some 2, .mov (.c (.int .i64 (-1))), none⟩]) (.ret))) (.skip))))))))))) (.kl [6] (.seq (.reg [⟨some 2, .mov (.c (.int .i64 0)), none⟩]) (.ret))))), [.tmp 2]⟩
/-- impl.at -/
def fi125 : FI := ⟨.seq (.reg [⟨some 4, .mov (.c (.int .u8 0)), none⟩]) (.kl [4] (.seq (.seq (.reg [⟨some 5, .mov (.t 1), none⟩, ⟨some 6, .bin .lss (.t 5) (.c (.int .i64 0)), none⟩, ⟨some 7, .mov (.t 6), none⟩, ⟨some 8, .mov (.t 1), some (7, false)⟩, ⟨some 9, .mov (.t 0), some (7, false)⟩, ⟨some 10, .lenS (.t 9), some (7, false)⟩, ⟨some 11, .bin .geq (.t 8) (.t 10), some (7, false)⟩, ⟨some 12, .pick (.t 7) (.c (.bool true)) (.t 11), none⟩]) (.kl [5, 6, 7, 8, 9, 10, 11] (.cond (.t 12) (.kl [0, 1, 12] (.seq (.reg [⟨some 4, .mov (.c (.int .u8 0)), none⟩]) (.ret))) (.skip)))) (.kl [12] (.seq (.reg [⟨some 13, .mov (.t 0), none⟩, ⟨some 14, .mov (.t 1), none⟩, ⟨some 15, .idxS (.t 13) (.t 14), none⟩, ⟨some 4, .mov (.t 15), none⟩]) (.kl [0, 1, 13, 14, 15] (.ret)))))), [.tmp 4]⟩
/-- impl.other -/
def fi109 : FI := ⟨.seq (.reg [⟨some 2, .mov (.c (.int .u8 0)), none⟩]) (.kl [2] (.seq (.seq (.reg [⟨some 3, .mov (.t 0), none⟩]) (.blk 0 (.seq (.reg [⟨some 5, .bin .eql (.t 3) (.c (.int .u8 84)), none⟩, ⟨some 4, .mov (.t 5), none⟩]) (.kl [5] (.cond (.t 4) (.kl [0, 3, 4] (.seq (.reg [⟨some 2, .mov (.c (.int .u8 70)), none⟩]) (.ret))) (.kl [4] (.seq (.reg [⟨some 7, .bin .eql (.t 3) (.c (.int .u8 70)), none⟩, ⟨some 6, .mov (.t 7), none⟩]) (.kl [3, 7] (.cond (.t 6) (.kl [0, 6] (.seq (.reg [⟨some 2, .mov (.c (.int .u8 84)), none⟩]) (.ret))) (.skip)))))))))) (.kl [6] (.seq (.reg [⟨some 8, .mov (.t 0), none⟩, ⟨some 2, .mov (.t 8), none⟩]) (.kl [0, 8] (.ret)))))), [.tmp 2]⟩
/-- impl.kindOf -/
def fi200 : FI := ⟨.seq (.reg [⟨some 2, .mov (.c (.str [])), none⟩]) (.kl [2] (.seq (.seq (.reg [⟨some 3, .mov (.t 0), none⟩]) (.kl [0] (.cond (.t 3) (.kl [3] (.seq (.reg [⟨some 2, .mov (.c (.str [84])), none⟩]) (.ret))) (.skip)))) (.kl [3] (.seq (.reg [⟨some 2, .mov (.c (.str [70])), none⟩]) (.ret))))), [.tmp 2]⟩
/-- slices.ContainsFunc[[]impl.Move,impl.Move] -/
def fi202 : FI := ⟨.seq (.reg [⟨some 4, .mov (.c (.bool false)), none⟩]) (.kl [4] (.seq (.reg [⟨some 5, .mov (.t 0), none⟩, ⟨some 6, .mov (.t 1), none⟩, ⟨some 7, .call 205 [.t 5, .t 6], none⟩, ⟨some 8, .bin .geq (.t 7) (.c (.int .i64 0)), none⟩, ⟨some 4, .mov (.t 8), none⟩]) (.kl [0, 1, 5, 6, 7, 8] (.ret)))), [.tmp 4]⟩
/-- (impl.games).win$1 -/
def fi201 : FI := ⟨.seq (.reg [⟨some 4, .box (.t 0), none⟩, ⟨some 5, .mov (.c (.bool false)), none⟩]) (.kl [0, 5] (.seq (.drw [⟨some 6, .load true 1 (.t 1), none⟩, ⟨some 7, .load false 1 (.t 2), none⟩, ⟨some 8, .load true 2 (.t 4), none⟩, ⟨some 9, .call 61 [.t 7, .t 8], none⟩, ⟨some 10, .load false 1 (.t 3), none⟩, ⟨some 11, .un .not (.t 10), none⟩, ⟨some 12, .call 198 [.t 6, .t 9, .t 11], none⟩, ⟨some 13, .un .not (.t 12), none⟩, ⟨some 5, .mov (.t 13), none⟩] [(0, 3), (4, 3)]) (.kl [1, 2, 3, 4, 6, 7, 8, 9, 10, 11, 12, 13] (.ret)))), [.tmp 5]⟩
/-- impl.made -/
def fi61 : FI := ⟨.seq (.reg [⟨some 3, .box (.t 1), none⟩, ⟨some 4, .mov (.c (.str [])), none⟩]) (.kl [1, 4] (.seq (.reg [⟨some 6, .mov (.t 0), none⟩, ⟨some 7, .toB (.t 6), none⟩, ⟨some 5, .mov (.t 7), none⟩]) (.kl [0, 6, 7] (.seq (.drw [⟨some 8, .mov (.t 5), none⟩, ⟨some 9, .faddr 1 1 (.t 3), none⟩, ⟨some 10, .load false 1 (.t 9), none⟩, ⟨some 11, .mov (.t 5), none⟩, ⟨some 12, .faddr 0 1 (.t 3), none⟩, ⟨some 13, .load false 1 (.t 12), none⟩, ⟨some 14, .mov (.t 5), none⟩, ⟨some 15, .faddr 0 1 (.t 3), none⟩, ⟨some 16, .load false 1 (.t 15), none⟩, ⟨some 17, .iaddr 1 (.t 14) (.t 16), none⟩, ⟨some 18, .load false 1 (.t 17), none⟩, ⟨some 19, .iaddr 1 (.t 8) (.t 10), none⟩, ⟨none, .store 1 (.t 19) (.t 18), none⟩, ⟨some 20, .iaddr 1 (.t 11) (.t 13), none⟩, ⟨none, .store 1 (.t 20) (.c (.int .u8 46)), none⟩] [(5, 12)]) (.kl [3, 8, 9, 10, 11, 12, 13, 14, 15, 16, 17, 18, 19, 20] (.seq (.reg [⟨some 21, .mov (.t 5), none⟩, ⟨some 22, .ofB (.t 21), none⟩, ⟨some 4, .mov (.t 22), none⟩]) (.kl [5, 21, 22] (.ret)))))))), [.tmp 4]⟩
-- lp203_0 HEAD [5, 9, 10, 11] | exit 0: [5]
/-- spec.gaKey -/
def lb203_0 : C := .kl [19] (.seq (.reg [⟨some 12, .bin .lss (.t 11) (.t 10), none⟩]) (.seq (.cond (.t 12) (.skip) (.kl [9, 10, 11, 12] (.exit 0))) (.kl [12] (.seq (.blk 1 (.seq (.reg [⟨some 13, .iaddr 1 (.t 9) (.t 11), none⟩, ⟨some 14, .load false 1 (.t 13), none⟩, ⟨some 7, .mov (.t 14), none⟩]) (.kl [13, 14] (.reg [⟨some 15, .mov (.t 5), none⟩, ⟨some 16, .mov (.t 7), none⟩, ⟨some 17, .bin .add (.c (.str [47])) (.t 16), none⟩, ⟨some 18, .bin .add (.t 15) (.t 17), none⟩, ⟨some 5, .mov (.t 18), none⟩])))) (.kl [7, 15, 16, 17, 18] (.reg [⟨some 19, .bin .add (.t 11) (.c (.int .i64 1)), none⟩, ⟨some 11, .mov (.t 19), none⟩]))))))
def lp203_0 : C := lb203_0
def fi203 : FI := ⟨.seq (.reg [⟨some 4, .mov (.c (.str [])), none⟩]) (.kl [4] (.seq (.reg [⟨some 5, .mov (.c (.str [102])), none⟩]) (.seq (.seq (.reg [⟨some 8, .mov (.t 1), none⟩]) (.kl [1] (.cond (.t 8) (.kl [5, 8] (.reg [⟨some 5, .mov (.c (.str [116])), none⟩])) (.skip)))) (.kl [8] (.seq (.seq (.reg [⟨some 9, .mov (.t 0), none⟩, ⟨some 10, .lenV (.t 9), none⟩, ⟨some 11, .mov (.c (.int .i64 0)), none⟩]) (.kl [0] (.blk 0 (.loop lp203_0)))) (.seq (.reg [⟨some 20, .mov (.t 5), none⟩, ⟨some 4, .mov (.t 20), none⟩]) (.kl [5, 20] (.ret)))))))), [.tmp 4]⟩
/-- spec.gaWith -/
def fi204 : FI := ⟨.seq (.reg [⟨some 6, .mov (.c (.nilS)), none⟩]) (.kl [6] (.seq (.reg [⟨some 8, .mov (.t 0), none⟩, ⟨some 9, .call 206 [.t 8], none⟩, ⟨some 7, .mov (.t 9), none⟩]) (.kl [0, 8, 9] (.seq (.reg [⟨some 10, .mov (.t 7), none⟩, ⟨some 11, .mov (.t 1), none⟩, ⟨some 12, .mov (.t 2), none⟩, ⟨some 13, .iaddr 1 (.t 10) (.t 11), none⟩, ⟨none, .store 1 (.t 13) (.t 12), none⟩]) (.kl [1, 2, 10, 11, 12, 13] (.seq (.reg [⟨some 14, .mov (.t 7), none⟩, ⟨some 6, .mov (.t 14), none⟩]) (.kl [7, 14] (.ret)))))))), [.tmp 6]⟩
/-- spec.liMake -/
def fi66 : FI := ⟨.seq (.reg [⟨some 3, .box (.t 1), none⟩, ⟨some 4, .mov (.c (.str [])), none⟩]) (.kl [1, 4] (.seq (.reg [⟨some 6, .mov (.t 0), none⟩, ⟨some 7, .faddr 0 1 (.t 3), none⟩, ⟨some 8, .load false 1 (.t 7), none⟩, ⟨some 9, .faddr 0 1 (.t 3), none⟩, ⟨some 10, .load false 1 (.t 9), none⟩, ⟨some 11, .bin .add (.t 10) (.c (.int .i64 1)), none⟩, ⟨some 12, .subS (.t 6) (some (.t 8)) (some (.t 11)), none⟩, ⟨some 5, .mov (.t 12), none⟩]) (.kl [6, 7, 8, 9, 10, 11, 12] (.seq (.drw [⟨some 13, .mov (.t 0), none⟩, ⟨some 14, .faddr 0 1 (.t 3), none⟩, ⟨some 15, .load false 1 (.t 14), none⟩, ⟨some 16, .call 108 [.t 13, .t 15, .c (.str [46])], none⟩, ⟨some 17, .faddr 1 1 (.t 3), none⟩, ⟨some 18, .load false 1 (.t 17), none⟩, ⟨some 19, .mov (.t 5), none⟩, ⟨some 20, .call 108 [.t 16, .t 18, .t 19], none⟩, ⟨some 4, .mov (.t 20), none⟩] [(5, 3)]) (.kl [0, 3, 5, 13, 14, 15, 16, 17, 18, 19, 20] (.ret)))))), [.tmp 4]⟩
-- lp205_0 HEAD [0, 1, 7, 8] | exit 0: [] | ret: [4]
/-- slices.IndexFunc[[]impl.Move,impl.Move] -/
def lb205_0 : C := .kl [18] (.seq (.reg [⟨some 9, .bin .lss (.t 8) (.t 7), none⟩]) (.seq (.cond (.t 9) (.skip) (.kl [0, 1, 7, 8, 9] (.exit 0))) (.kl [9] (.seq (.blk 1 (.seq (.reg [⟨some 10, .mov (.t 8), none⟩, ⟨some 5, .mov (.t 10), none⟩]) (.kl [10] (.seq (.reg [⟨some 11, .mov (.t 1), none⟩, ⟨some 12, .mov (.t 0), none⟩, ⟨some 13, .mov (.t 5), none⟩, ⟨some 14, .iaddr 2 (.t 12) (.t 13), none⟩, ⟨some 15, .load true 2 (.t 14), none⟩, ⟨some 16, .callv (.t 11) [.t 15], none⟩]) (.kl [11, 12, 13, 14, 15] (.cond (.t 16) (.kl [0, 1, 7, 8, 16] (.seq (.reg [⟨some 17, .mov (.t 5), none⟩, ⟨some 4, .mov (.t 17), none⟩]) (.kl [5, 17] (.ret)))) (.skip))))))) (.kl [5, 16] (.reg [⟨some 18, .bin .add (.t 8) (.c (.int .i64 1)), none⟩, ⟨some 8, .mov (.t 18), none⟩]))))))
def lp205_0 : C := lb205_0
def fi205 : FI := ⟨.seq (.reg [⟨some 4, .mov (.c (.int .i64 0)), none⟩]) (.kl [4] (.seq (.seq (.reg [⟨some 6, .mov (.t 0), none⟩, ⟨some 7, .lenV (.t 6), none⟩, ⟨some 8, .mov (.c (.int .i64 0)), none⟩]) (.kl [6] (.blk 0 (.loop lp205_0)))) (.seq (.reg [⟨some 4, .mov (.c (.int .i64 (-1))), none⟩]) (.ret)))), [.tmp 4]⟩
/-- spec.l1OwnS -/
def fi206 : FI := ⟨.seq (.reg [⟨some 2, .mov (.c (.nilS)), none⟩]) (.kl [2] (.seq (.reg [⟨some 3, .lit0, none⟩, ⟨some 4, .mov (.t 0), none⟩, ⟨some 5, .app 1 (.t 3) (.t 4), none⟩, ⟨some 2, .mov (.t 5), none⟩]) (.kl [0, 3, 4, 5] (.ret)))), [.tmp 2]⟩
/-- spec.liPut -/
def fi108 : FI := ⟨.seq (.reg [⟨some 6, .mov (.c (.str [])), none⟩]) (.kl [6] (.seq (.drw [⟨some 7, .mov (.t 0), none⟩, ⟨some 8, .mov (.t 1), none⟩, ⟨some 9, .subS (.t 7) none (some (.t 8)), none⟩, ⟨some 10, .mov (.t 2), none⟩, ⟨some 11, .bin .add (.t 9) (.t 10), none⟩, ⟨some 12, .mov (.t 0), none⟩, ⟨some 13, .mov (.t 1), none⟩, ⟨some 14, .bin .add (.t 13) (.c (.int .i64 1)), none⟩, ⟨some 15, .subS (.t 12) (some (.t 14)) none, none⟩, ⟨some 16, .bin .add (.t 11) (.t 15), none⟩, ⟨some 6, .mov (.t 16), none⟩] []) (.kl [0, 1, 2, 7, 8, 9, 10, 11, 12, 13, 14, 15, 16] (.ret)))), [.tmp 6]⟩

def tab : List (Nat × FI) := [(209, fi209), (212, fi212), (135, fi135), (210, fi210), (136, fi136), (211, fi211), (155, fi155), (139, fi139), (156, fi156), (157, fi157), (158, fi158), (213, fi213), (214, fi214), (215, fi215), (159, fi159), (160, fi160), (161, fi161), (216, fi216), (162, fi162), (138, fi138), (167, fi167), (217, fi217), (164, fi164), (170, fi170), (165, fi165), (142, fi142), (218, fi218), (219, fi219), (171, fi171), (172, fi172), (173, fi173), (174, fi174), (163, fi163), (178, fi178), (180, fi180), (179, fi179), (185, fi185), (175, fi175), (77, fi77), (181, fi181), (166, fi166), (184, fi184), (82, fi82), (183, fi183), (186, fi186), (187, fi187), (188, fi188), (74, fi74), (177, fi177), (176, fi176), (189, fi189), (105, fi105), (191, fi191), (192, fi192), (193, fi193), (195, fi195), (116, fi116), (119, fi119), (196, fi196), (197, fi197), (182, fi182), (127, fi127), (198, fi198), (130, fi130), (199, fi199), (103, fi103), (125, fi125), (109, fi109), (200, fi200), (202, fi202), (201, fi201), (61, fi61), (203, fi203), (204, fi204), (66, fi66), (205, fi205), (206, fi206), (108, fi108)]
def T (f : Nat) : Option FI := (tab.find? fun x => x.1 == f).map (·.2)
theorem T209 : T 209 = some fi209 := rfl
theorem T212 : T 212 = some fi212 := rfl
theorem T135 : T 135 = some fi135 := rfl
theorem T210 : T 210 = some fi210 := rfl
theorem T136 : T 136 = some fi136 := rfl
theorem T211 : T 211 = some fi211 := rfl
theorem T155 : T 155 = some fi155 := rfl
theorem T139 : T 139 = some fi139 := rfl
theorem T156 : T 156 = some fi156 := rfl
theorem T157 : T 157 = some fi157 := rfl
theorem T158 : T 158 = some fi158 := rfl
theorem T213 : T 213 = some fi213 := rfl
theorem T214 : T 214 = some fi214 := rfl
theorem T215 : T 215 = some fi215 := rfl
theorem T159 : T 159 = some fi159 := rfl
theorem T160 : T 160 = some fi160 := rfl
theorem T161 : T 161 = some fi161 := rfl
theorem T216 : T 216 = some fi216 := rfl
theorem T162 : T 162 = some fi162 := rfl
theorem T138 : T 138 = some fi138 := rfl
theorem T167 : T 167 = some fi167 := rfl
theorem T217 : T 217 = some fi217 := rfl
theorem T164 : T 164 = some fi164 := rfl
theorem T170 : T 170 = some fi170 := rfl
theorem T165 : T 165 = some fi165 := rfl
theorem T142 : T 142 = some fi142 := rfl
theorem T218 : T 218 = some fi218 := rfl
theorem T219 : T 219 = some fi219 := rfl
theorem T171 : T 171 = some fi171 := rfl
theorem T172 : T 172 = some fi172 := rfl
theorem T173 : T 173 = some fi173 := rfl
theorem T174 : T 174 = some fi174 := rfl
theorem T163 : T 163 = some fi163 := rfl
theorem T178 : T 178 = some fi178 := rfl
theorem T180 : T 180 = some fi180 := rfl
theorem T179 : T 179 = some fi179 := rfl
theorem T185 : T 185 = some fi185 := rfl
theorem T175 : T 175 = some fi175 := rfl
theorem T77 : T 77 = some fi77 := rfl
theorem T181 : T 181 = some fi181 := rfl
theorem T166 : T 166 = some fi166 := rfl
theorem T184 : T 184 = some fi184 := rfl
theorem T82 : T 82 = some fi82 := rfl
theorem T183 : T 183 = some fi183 := rfl
theorem T186 : T 186 = some fi186 := rfl
theorem T187 : T 187 = some fi187 := rfl
theorem T188 : T 188 = some fi188 := rfl
theorem T74 : T 74 = some fi74 := rfl
theorem T177 : T 177 = some fi177 := rfl
theorem T176 : T 176 = some fi176 := rfl
theorem T189 : T 189 = some fi189 := rfl
theorem T105 : T 105 = some fi105 := rfl
theorem T191 : T 191 = some fi191 := rfl
theorem T192 : T 192 = some fi192 := rfl
theorem T193 : T 193 = some fi193 := rfl
theorem T195 : T 195 = some fi195 := rfl
theorem T116 : T 116 = some fi116 := rfl
theorem T119 : T 119 = some fi119 := rfl
theorem T196 : T 196 = some fi196 := rfl
theorem T197 : T 197 = some fi197 := rfl
theorem T182 : T 182 = some fi182 := rfl
theorem T127 : T 127 = some fi127 := rfl
theorem T198 : T 198 = some fi198 := rfl
theorem T130 : T 130 = some fi130 := rfl
theorem T199 : T 199 = some fi199 := rfl
theorem T103 : T 103 = some fi103 := rfl
theorem T125 : T 125 = some fi125 := rfl
theorem T109 : T 109 = some fi109 := rfl
theorem T200 : T 200 = some fi200 := rfl
theorem T202 : T 202 = some fi202 := rfl
theorem T201 : T 201 = some fi201 := rfl
theorem T61 : T 61 = some fi61 := rfl
theorem T203 : T 203 = some fi203 := rfl
theorem T204 : T 204 = some fi204 := rfl
theorem T66 : T 66 = some fi66 := rfl
theorem T205 : T 205 = some fi205 := rfl
theorem T206 : T 206 = some fi206 := rfl
theorem T108 : T 108 = some fi108 := rfl
end Go.Proofs.YtmlmfjjfciiblaaGreatDoor.Ab
-- EXT slices.Delete[[]impl.Clue,impl.Clue]
-- EXT strings.Trim
-- EXT strings.IndexByte
-- EXT strings.Index
-- EXT strings.Count
-- EXT strings.Contains
-- XF slices.Delete[[]impl.Clue,impl.Clue]|40|29, 55

/- RULES for reckoning with the evaluator: fuel is bounded by no one. -/
namespace Go.Proofs.YtmlmfjjfciiblaaGreatDoor.Ab
open Go

def CF.le (a b : CF) : Prop := ∀ f xs h r, a f xs h = some r → b f xs h = some r
theorem CF.le_refl (a : CF) : a.le a := fun _ _ _ _ h => h

def AOp.isCall : AOp → Bool
  | .call .. | .callv .. => true
  | _ => false

section
variable {cf cf' : CF} {ρ : Opd → AV} {h : AH} {e : Env}

theorem evOp_mono (hle : cf.le cf') {i : AOp} {x : AV × AH} (hev : evOp cf ρ h i = some x) : evOp cf' ρ h i = some x := by
  cases i <;> first
    | exact hev
    | (simp only [evOp] at hev ⊢; exact hle _ _ _ _ hev)
    | (simp only [evOp] at hev ⊢
       split at hev
       · exact hle _ _ _ _ hev
       · cases hev)
theorem evOp_any {i : AOp} (hi : i.isCall = false) (cf cf' : CF) : evOp cf ρ h i = evOp cf' ρ h i := by
  cases i <;> first
    | rfl
    | (simp [AOp.isCall] at hi; done)

theorem evI_mono (hle : cf.le cf') {i : I} {x : Env × AH} (hev : evI cf i e h = some x) : evI cf' i e h = some x := by
  have key : ∀ x, (evOp cf (env e) h i.op).map (fun (v, h') => (put e i.dst v, h')) = some x → (evOp cf' (env e) h i.op).map (fun (v, h') => (put e i.dst v, h')) = some x := by
    intro x hx
    simp only [Option.map_eq_some_iff] at hx ⊢
    obtain ⟨y, hy, he⟩ := hx
    exact ⟨y, evOp_mono hle hy, he⟩
  unfold evI at hev ⊢
  split at hev
  · exact key _ hev
  · split at hev
    · split at hev
      · rename_i h1; rw [if_pos h1]; exact key _ hev
      · rename_i h1; rw [if_neg h1]; exact hev
    · exact hev
    · cases hev

theorem evR_mono (hle : cf.le cf') : ∀ {is : List I} {e : Env} {h : AH} {x : Env × AH}, evR cf is e h = some x → evR cf' is e h = some x
  | [], _, _, _, hev => hev
  | i :: is, e, h, x, hev => by
    simp only [evR] at hev ⊢
    split at hev
    · rename_i e1 h1 h2
      rw [evI_mono hle h2]
      exact evR_mono hle hev
    · cases hev

theorem state_some : ∀ {is : List I} {e : Env} {h : AH} {x : Env × AH}, evR cf is e h = some x → ∀ i, ∃ s, stateAt cf is i e h = some s
  | [], e, h, x, hev, i => ⟨(e, h), by simp [stateAt, evR]⟩
  | j :: is, e, h, x, hev, i => by
    cases i with
    | zero => exact ⟨(e, h), by simp [stateAt, evR]⟩
    | succ i =>
      simp only [evR] at hev
      split at hev
      · rename_i e1 h1 h2
        obtain ⟨s, hs⟩ := state_some hev i
        refine ⟨s, ?_⟩
        simp only [stateAt, List.take_succ_cons, evR, h2]
        exact hs
      · cases hev

theorem evDraw_mono (hle : cf.le cf') {is : List I} {ps : List (Nat × Nat)} {x : Env × AH} (hev : evDraw cf is ps e h = some x) : evDraw cf' is ps e h = some x := by
  unfold evDraw at hev ⊢
  split at hev
  · rename_i hst
    rw [if_pos]
    · exact evR_mono hle hev
    · intro p hp o e1 h1 e2 h2 e3 h3 k0 k1 k2 k3
      obtain ⟨s1, g1⟩ := state_some hev p.1
      obtain ⟨s2, g2⟩ := state_some hev p.2
      obtain ⟨s3, g3⟩ := state_some hev (p.2 + 1)
      have m1 := evR_mono hle g1
      have m2 := evR_mono hle g2
      have m3 := evR_mono hle g3
      unfold stateAt at k1 k2 k3
      rw [m1] at k1; rw [m2] at k2; rw [m3] at k3
      cases k1; cases k2; cases k3
      exact hst p hp o e1 h1 e2 h2 e3 h3 k0 g1 g2 g3
  · cases hev

theorem evLoop_mono {s s' : Env → AH → Option (X × Env × AH)} (hs : ∀ e h x, s e h = some x → s' e h = some x) : ∀ {n n' : Nat}, n ≤ n' → ∀ {e : Env} {h : AH} {x}, evLoop s n e h = some x → evLoop s' n' e h = some x
  | 0, _, _, _, _, _, hev => by simp [evLoop] at hev
  | n + 1, 0, hn, _, _, _, _ => by omega
  | n + 1, n' + 1, hn, e, h, x, hev => by
    simp only [evLoop] at hev ⊢
    cases hst : s e h with
    | none => rw [hst] at hev; simp at hev
    | some y =>
      rw [hst] at hev
      rw [hs _ _ _ hst]
      obtain ⟨x1, e1, h1⟩ := y
      cases x1 with
      | normal => exact evLoop_mono hs (by omega) hev
      | exit i => exact hev
      | ret => exact hev

theorem evC_mono (hle : cf.le cf') {n n' : Nat} (hn : n ≤ n') : ∀ (c : C) {e : Env} {h : AH} {x}, evC cf n c e h = some x → evC cf' n' c e h = some x := by
  intro c
  induction c with
  | skip => intro e h x hev; exact hev
  | reg is =>
    intro e h x hev
    simp only [evC, Option.map_eq_some_iff] at hev ⊢
    obtain ⟨y, hy, he⟩ := hev
    exact ⟨y, evR_mono hle hy, he⟩
  | drw is ps =>
    intro e h x hev
    simp only [evC, Option.map_eq_some_iff] at hev ⊢
    obtain ⟨y, hy, he⟩ := hev
    exact ⟨y, evDraw_mono hle hy, he⟩
  | kl ts c ih => intro e h x hev; simp only [evC] at hev ⊢; exact ih hev
  | seq a b iha ihb =>
    intro e h x hev
    simp only [evC] at hev ⊢
    cases ha : evC cf n a e h with
    | none => rw [ha] at hev; simp at hev
    | some y =>
      rw [ha] at hev
      rw [iha ha]
      obtain ⟨x1, e1, h1⟩ := y
      cases x1 with
      | normal => exact ihb hev
      | exit i => exact hev
      | ret => exact hev
  | cond y a b iha ihb =>
    intro e h x hev
    simp only [evC] at hev ⊢
    split at hev
    · rename_i t ht
      split at hev
      · rename_i h1; rw [if_pos h1]; exact iha hev
      · rename_i h1; rw [if_neg h1]; exact ihb hev
    · cases hev
  | blk id a ih =>
    intro e h x hev
    simp only [evC] at hev ⊢
    cases ha : evC cf n a e h with
    | none => rw [ha] at hev; simp at hev
    | some y =>
      rw [ha] at hev
      rw [ih ha]
      exact hev
  | loop a ih =>
    intro e h x hev
    simp only [evC] at hev ⊢
    exact evLoop_mono (fun _ _ _ hh => ih hh) hn hev
  | exit i => intro e h x hev; exact hev
  | ret => intro e h x hev; exact hev
  | bad => intro e h x hev; simp [evC] at hev
end

def EMono (E : Ext) : Prop := ∀ f G, E f = some G → ∀ cf cf' : CF, cf.le cf' → ∀ xs h r, G cf xs h = some r → G cf' xs h = some r

theorem evF_mono {T : Nat → Option FI} {E : Ext} (hE : EMono E) : ∀ {n n' : Nat}, n ≤ n' → (evF T E n).le (evF T E n')
  | 0, _, _ => by intro f xs h r hev; simp [evF] at hev
  | n + 1, 0, hn => by omega
  | n + 1, n' + 1, hn => by
    intro f xs h r hev
    have ih := evF_mono (T := T) hE (show n ≤ n' by omega)
    simp only [evF] at hev ⊢
    split at hev
    · rename_i G hG
      exact hE f G hG _ _ ih _ _ _ hev
    · split at hev
      · rename_i fi hfi
        cases hc : evC (evF T E n) n fi.body (Env.init 0 xs) h with
        | none => rw [hc] at hev; cases hev
        | some y => rw [hc] at hev; rw [evC_mono ih (by omega) _ hc]; exact hev
      · cases hev

/-! ### The rules -/
section
variable (T : Nat → Option FI) (E : Ext)

def Spec (f : Nat) (xs : List AV) (h : AH) (post : AV → AH → Prop) : Prop := ∃ n r h', evF T E n f xs h = some (r, h') ∧ post r h'
def WC (c : C) (e : Env) (h : AH) (Q : X → Env → AH → Prop) : Prop := ∃ n x e' h', evC (evF T E n) n c e h = some (x, e', h') ∧ Q x e' h'
def WR (is : List I) (e : Env) (h : AH) (Q : Env → AH → Prop) : Prop := ∃ n e' h', evR (evF T E n) is e h = some (e', h') ∧ Q e' h'
def WO {α : Type} (o : Option (α × AH)) (K : α → AH → Prop) : Prop := match o with
  | some (v, h) => K v h
  | none => False
end
@[simp] theorem WO_some {α : Type} {v : α} {h : AH} {K : α → AH → Prop} : WO (some (v, h)) K ↔ K v h := Iff.rfl
@[simp] theorem WO_none {α : Type} {K : α → AH → Prop} : WO none K ↔ False := Iff.rfl
theorem WO_iff {α : Type} {o : Option (α × AH)} {K : α → AH → Prop} : WO o K ↔ ∃ v h, o = some (v, h) ∧ K v h := by
  cases o with
  | none => simp
  | some x =>
    obtain ⟨v, h⟩ := x
    exact ⟨fun hk => ⟨v, h, rfl, hk⟩, fun ⟨_, _, he, hk⟩ => by cases he; exact hk⟩

section
variable {T : Nat → Option FI} {E : Ext} (hE : EMono E) {e : Env} {h : AH} {Q : Env → AH → Prop} {R : X → Env → AH → Prop}
include hE

omit hE in
theorem WR_nil : WR T E [] e h Q ↔ Q e h := by
  constructor
  · rintro ⟨n, e', h', hev, hq⟩
    simp only [evR, Option.some.injEq, Prod.mk.injEq] at hev
    obtain ⟨rfl, rfl⟩ := hev
    exact hq
  · intro hq; exact ⟨0, e, h, rfl, hq⟩

omit hE in
/-- An operation that calls no one. -/
theorem WR_op {d : Option Nat} {op : AOp} {is : List I} (hi : op.isCall = false) : WR T E (⟨d, op, none⟩ :: is) e h Q ↔ WO (evOp noCall (env e) h op) fun v h' => WR T E is (put e d v) h' Q := by
  rw [WO_iff]
  constructor
  · rintro ⟨n, e', h', hev, hq⟩
    simp only [evR, evI] at hev
    rw [evOp_any hi (evF T E n) noCall] at hev
    cases ho : evOp noCall (env e) h op with
    | none => rw [ho] at hev; simp at hev
    | some y =>
      rw [ho] at hev
      obtain ⟨v, h1⟩ := y
      exact ⟨v, h1, rfl, n, e', h', hev, hq⟩
  · rintro ⟨v, h1, ho, n, e', h', hev, hq⟩
    refine ⟨n, e', h', ?_, hq⟩
    simp only [evR, evI]
    rw [evOp_any hi (evF T E n) noCall, ho]
    exact hev

theorem WR_call {d : Option Nat} {f : Nat} {xs : List Opd} {is : List I} : WR T E (⟨d, .call f xs, none⟩ :: is) e h Q ↔ Spec T E f (xs.map (env e)) h fun v h' => WR T E is (put e d v) h' Q := by
  constructor
  · rintro ⟨n, e', h', hev, hq⟩
    simp only [evR, evI, evOp] at hev
    cases ho : evF T E n f (xs.map (env e)) h with
    | none => rw [ho] at hev; simp at hev
    | some y =>
      rw [ho] at hev
      obtain ⟨v, h1⟩ := y
      exact ⟨n, v, h1, ho, n, e', h', hev, hq⟩
  · rintro ⟨n, v, h1, ho, n', e', h', hev, hq⟩
    refine ⟨max n n', e', h', ?_, hq⟩
    simp only [evR, evI, evOp]
    rw [evF_mono hE (Nat.le_max_left n n') _ _ _ _ ho]
    exact evR_mono (evF_mono hE (Nat.le_max_right n n')) hev

theorem WR_callv {d : Option Nat} {x : Opd} {xs : List Opd} {is : List I} {f : Nat} {cap : List AV} (hx : env e x = .fn f cap) : WR T E (⟨d, .callv x xs, none⟩ :: is) e h Q ↔ Spec T E f (xs.map (env e) ++ cap) h fun v h' => WR T E is (put e d v) h' Q := by
  constructor
  · rintro ⟨n, e', h', hev, hq⟩
    simp only [evR, evI, evOp, hx] at hev
    cases ho : evF T E n f (xs.map (env e) ++ cap) h with
    | none => rw [ho] at hev; simp at hev
    | some y =>
      rw [ho] at hev
      obtain ⟨v, h1⟩ := y
      exact ⟨n, v, h1, ho, n, e', h', hev, hq⟩
  · rintro ⟨n, v, h1, ho, n', e', h', hev, hq⟩
    refine ⟨max n n', e', h', ?_, hq⟩
    simp only [evR, evI, evOp, hx]
    rw [evF_mono hE (Nat.le_max_left n n') _ _ _ _ ho]
    exact evR_mono (evF_mono hE (Nat.le_max_right n n')) hev

omit hE in
/-- A guard that is heard, one that is not. -/
theorem WR_grd {d : Option Nat} {op : AOp} {is : List I} {t : Nat} {want b : Bool} (hb : e.get t = .bool b) : WR T E (⟨d, op, some (t, want)⟩ :: is) e h Q ↔ if b = want then WR T E (⟨d, op, none⟩ :: is) e h Q else WR T E is (put e d (.tup [])) h Q := by
  have key : ∀ n, evR (evF T E n) (⟨d, op, some (t, want)⟩ :: is) e h = if b = want then evR (evF T E n) (⟨d, op, none⟩ :: is) e h else evR (evF T E n) is (put e d (.tup [])) h := by
    intro n
    simp only [evR, evI, hb]
    by_cases hbw : b = want <;> simp [hbw]
  unfold WR
  simp only [key]
  by_cases hbw : b = want <;> simp [hbw]

omit hE in
/-- A guard on what was not done. -/
theorem WR_grd0 {d : Option Nat} {op : AOp} {is : List I} {t : Nat} {want : Bool} (hb : e.get t = .tup []) : WR T E (⟨d, op, some (t, want)⟩ :: is) e h Q ↔ WR T E is (put e d (.tup [])) h Q := by
  have key : ∀ n, evR (evF T E n) (⟨d, op, some (t, want)⟩ :: is) e h = evR (evF T E n) is (put e d (.tup [])) h := by
    intro n
    simp only [evR, evI, hb]
  unfold WR
  simp only [key]

omit hE in
theorem WC_reg {is : List I} : WC T E (.reg is) e h R ↔ WR T E is e h (R .normal) := by
  constructor
  · rintro ⟨n, x, e', h', hev, hq⟩
    simp only [evC, Option.map_eq_some_iff, Prod.mk.injEq] at hev
    obtain ⟨⟨e1, h1⟩, hev, rfl, rfl, rfl⟩ := hev
    exact ⟨n, e1, h1, hev, hq⟩
  · rintro ⟨n, e', h', hev, hq⟩
    exact ⟨n, .normal, e', h', by simp only [evC, hev]; rfl, hq⟩
omit hE in
theorem WC_skip : WC T E .skip e h R ↔ R .normal e h :=
  ⟨by rintro ⟨n, x, e', h', hev, hq⟩; simp only [evC, Option.some.injEq, Prod.mk.injEq] at hev; obtain ⟨rfl, rfl, rfl⟩ := hev; exact hq, fun hq => ⟨0, _, _, _, rfl, hq⟩⟩
omit hE in
theorem WC_ret : WC T E .ret e h R ↔ R .ret e h :=
  ⟨by rintro ⟨n, x, e', h', hev, hq⟩; simp only [evC, Option.some.injEq, Prod.mk.injEq] at hev; obtain ⟨rfl, rfl, rfl⟩ := hev; exact hq, fun hq => ⟨0, _, _, _, rfl, hq⟩⟩
omit hE in
theorem WC_exit {i : Nat} : WC T E (.exit i) e h R ↔ R (.exit i) e h :=
  ⟨by rintro ⟨n, x, e', h', hev, hq⟩; simp only [evC, Option.some.injEq, Prod.mk.injEq] at hev; obtain ⟨rfl, rfl, rfl⟩ := hev; exact hq, fun hq => ⟨0, _, _, _, rfl, hq⟩⟩
omit hE in
theorem WC_kl {ts : List Nat} {c : C} : WC T E (.kl ts c) e h R ↔ WC T E c (e.dels ts) h R := by
  unfold WC; simp only [evC]

/-- Behind a first piece: go on, or out. -/
def then' (K : Env → AH → Prop) (R : X → Env → AH → Prop) : X → Env → AH → Prop
  | .normal, e, h => K e h
  | x, e, h => R x e h
def inBlk (i : Nat) (R : X → Env → AH → Prop) : X → Env → AH → Prop
  | .exit j, e, h => if j = i then R .normal e h else R (.exit j) e h
  | x, e, h => R x e h
omit hE in
@[simp] theorem then_normal {K : Env → AH → Prop} {R : X → Env → AH → Prop} : then' K R .normal e h = K e h := rfl
omit hE in
@[simp] theorem then_exit {K : Env → AH → Prop} {R : X → Env → AH → Prop} {i : Nat} : then' K R (.exit i) e h = R (.exit i) e h := rfl
omit hE in
@[simp] theorem then_ret {K : Env → AH → Prop} {R : X → Env → AH → Prop} : then' K R .ret e h = R .ret e h := rfl
omit hE in
@[simp] theorem inBlk_normal {i : Nat} {R : X → Env → AH → Prop} : inBlk i R .normal e h = R .normal e h := rfl
omit hE in
@[simp] theorem inBlk_ret {i : Nat} {R : X → Env → AH → Prop} : inBlk i R .ret e h = R .ret e h := rfl
omit hE in
@[simp] theorem inBlk_exit {i j : Nat} {R : X → Env → AH → Prop} : inBlk i R (.exit j) e h = if j = i then R .normal e h else R (.exit j) e h := rfl

theorem WC_seq {a b : C} : WC T E (.seq a b) e h R ↔ WC T E a e h (then' (fun e' h' => WC T E b e' h' R) R) := by
  constructor
  · rintro ⟨n, x, e', h', hev, hq⟩
    simp only [evC] at hev
    cases ha : evC (evF T E n) n a e h with
    | none => rw [ha] at hev; simp at hev
    | some y =>
      rw [ha] at hev
      obtain ⟨x1, e1, h1⟩ := y
      refine ⟨n, x1, e1, h1, ha, ?_⟩
      cases x1 with
      | normal => exact ⟨n, x, e', h', hev, hq⟩
      | exit i => cases hev; exact hq
      | ret => cases hev; exact hq
  · rintro ⟨n, x1, e1, h1, ha, hq⟩
    cases x1 with
    | normal =>
      obtain ⟨n', x, e', h', hev, hq⟩ := hq
      refine ⟨max n n', x, e', h', ?_, hq⟩
      simp only [evC]
      rw [evC_mono (evF_mono hE (Nat.le_max_left n n')) (Nat.le_max_left n n') _ ha]
      exact evC_mono (evF_mono hE (Nat.le_max_right n n')) (Nat.le_max_right n n') _ hev
    | exit i => exact ⟨n, _, e1, h1, by simp only [evC, ha], hq⟩
    | ret => exact ⟨n, _, e1, h1, by simp only [evC, ha], hq⟩

omit hE in
theorem WC_cond {x : Opd} {a b : C} {t : Bool} (ht : env e x = .bool t) : WC T E (.cond x a b) e h R ↔ if t then WC T E a e h R else WC T E b e h R := by
  unfold WC
  simp only [evC, ht]
  cases t <;> simp

omit hE in
theorem WC_blk {i : Nat} {c : C} : WC T E (.blk i c) e h R ↔ WC T E c e h (inBlk i R) := by
  constructor
  · rintro ⟨n, x, e', h', hev, hq⟩
    simp only [evC] at hev
    cases ha : evC (evF T E n) n c e h with
    | none => rw [ha] at hev; simp at hev
    | some y =>
      rw [ha] at hev
      obtain ⟨x1, e1, h1⟩ := y
      refine ⟨n, x1, e1, h1, ha, ?_⟩
      cases x1 with
      | normal => cases hev; exact hq
      | exit j =>
        simp only at hev
        simp only [inBlk]
        split at hev
        · rename_i hj; rw [if_pos hj]; cases hev; exact hq
        · rename_i hj; rw [if_neg hj]; cases hev; exact hq
      | ret => cases hev; exact hq
  · rintro ⟨n, x1, e1, h1, ha, hq⟩
    cases x1 with
    | normal => exact ⟨n, _, e1, h1, by simp only [evC, ha], hq⟩
    | exit j =>
      simp only [inBlk] at hq
      by_cases hj : j = i
      · rw [if_pos hj] at hq
        exact ⟨n, _, e1, h1, by simp only [evC, ha, if_pos hj], hq⟩
      · rw [if_neg hj] at hq
        exact ⟨n, _, e1, h1, by simp only [evC, ha, if_neg hj], hq⟩
    | ret => exact ⟨n, _, e1, h1, by simp only [evC, ha], hq⟩

/-- A loop, one round unrolled. -/
theorem WC_loop {c : C} : WC T E (.loop c) e h R ↔ WC T E c e h (then' (fun e' h' => WC T E (.loop c) e' h' R) R) := by
  constructor
  · rintro ⟨n, x, e', h', hev, hq⟩
    simp only [evC] at hev
    cases n with
    | zero => simp [evLoop] at hev
    | succ n =>
      simp only [evLoop] at hev
      cases ha : evC (evF T E (n + 1)) (n + 1) c e h with
      | none => rw [ha] at hev; simp at hev
      | some y =>
        rw [ha] at hev
        obtain ⟨x1, e1, h1⟩ := y
        refine ⟨n + 1, x1, e1, h1, ha, ?_⟩
        cases x1 with
        | normal =>
          refine ⟨n + 1, x, e', h', ?_, hq⟩
          simp only [evC]
          exact evLoop_mono (fun _ _ _ hh => hh) (Nat.le_succ n) hev
        | exit i => cases hev; exact hq
        | ret => cases hev; exact hq
  · rintro ⟨n, x1, e1, h1, ha, hq⟩
    cases x1 with
    | normal =>
      obtain ⟨n', x, e', h', hev, hq⟩ := hq
      simp only [evC] at hev
      refine ⟨max n n' + 1, x, e', h', ?_, hq⟩
      simp only [evC, evLoop]
      rw [evC_mono (evF_mono hE (show n ≤ max n n' + 1 by omega)) (show n ≤ max n n' + 1 by omega) _ ha]
      exact evLoop_mono (fun _ _ _ hh => evC_mono (evF_mono hE (show n' ≤ max n n' + 1 by omega)) (show n' ≤ max n n' + 1 by omega) _ hh) (show n' ≤ max n n' by omega) hev
    | exit i =>
      refine ⟨n + 1, _, e1, h1, ?_, hq⟩
      simp only [evC, evLoop]
      rw [evC_mono (evF_mono hE (Nat.le_succ n)) (Nat.le_succ n) _ ha]
    | ret =>
      refine ⟨n + 1, _, e1, h1, ?_, hq⟩
      simp only [evC, evLoop]
      rw [evC_mono (evF_mono hE (Nat.le_succ n)) (Nat.le_succ n) _ ha]

omit hE in
/-- Into a function of the table. -/
theorem Spec_of {f : Nat} {xs : List AV} {post : AV → AH → Prop} {fi : FI} (hEf : E f = none) (hT : T f = some fi)
    (hw : WC T E fi.body (Env.init 0 xs) h fun x e' h' => (x = .normal ∨ x = .ret) ∧ ∃ r, resV e' h' fi.res = some r ∧ post r h') : Spec T E f xs h post := by
  obtain ⟨n, x, e', h', hev, hx, r, hr, hq⟩ := hw
  refine ⟨n + 1, r, h', ?_, hq⟩
  simp only [evF, hEf, hT, hev]
  rcases hx with rfl | rfl <;> simp [hr]
omit hE in
theorem Spec_ext {f : Nat} {xs : List AV} {post : AV → AH → Prop} {G : CF → List AV → AH → Option (AV × AH)} (hEf : E f = some G) {r : AV} {h' : AH} (n : Nat) (hG : G (evF T E n) xs h = some (r, h')) (hp : post r h') : Spec T E f xs h post :=
  ⟨n + 1, r, h', by simp only [evF, hEf, hG], hp⟩
omit hE in
theorem Spec.mono {f : Nat} {xs : List AV} {post post' : AV → AH → Prop} (hs : Spec T E f xs h post) (hp : ∀ r h', post r h' → post' r h') : Spec T E f xs h post' := by
  obtain ⟨n, r, h', hev, hq⟩ := hs
  exact ⟨n, r, h', hev, hp _ _ hq⟩
omit hE in
theorem WC.mono {c : C} {R' : X → Env → AH → Prop} (hs : WC T E c e h R) (hp : ∀ x e' h', R x e' h' → R' x e' h') : WC T E c e h R' := by
  obtain ⟨n, x, e', h', hev, hq⟩ := hs
  exact ⟨n, x, e', h', hev, hp _ _ _ hq⟩
end
end Go.Proofs.YtmlmfjjfciiblaaGreatDoor.Ab

/- CONTRACTS outside the table of bodies: functions of strings, by what they answer. -/
namespace Go.Proofs.YtmlmfjjfciiblaaGreatDoor.Ab
open Go

/-- Functions that turn nothing: of strings and numbers, or of what a slice holds. -/
def pureX (G : List AV → AH → Option AV) : CF → List AV → AH → Option (AV × AH) := fun _ xs h => (G xs h).map (·, h)
def low (s : List UInt8) : Bool := s.all fun b => decide (b.toNat < 128)
def xTrim : List AV → Option AV
  | [.str s, .str c] => if s.length ≤ 4294967280 ∧ c.length ≤ 4294967280 ∧ low c = true then some (.str (Go.Lib.trimS s c)) else none
  | _ => none
def xIndexByte : List AV → Option AV
  | [.str s, .int .u8 c] => some (.int .i64 (Go.Lib.indexByte s c.toNat.toUInt8))
  | _ => none
def xIndex : List AV → Option AV
  | [.str s, .str [c]] => some (.int .i64 (Go.Lib.indexByte s c))
  | _ => none
def xContains : List AV → Option AV
  | [.str s, .str [c]] => some (.bool (decide (0 ≤ Go.Lib.indexByte s c)))
  | _ => none
def xCount : List AV → Option AV
  | [.str s, .str [c]] => some (.int .i64 (Go.Lib.countByte s c))
  | _ => none

def strsOf : List AV → Option (List (List UInt8))
  | [] => some []
  | .str s :: l => (strsOf l).map (s :: ·)
  | _ :: _ => none
def xJoin : List AV → AH → Option AV
  | [.slice c k off len e, .str sep], h => if e = 1 then match rdRow h c k off len with
    | some cs => match strsOf cs with
      | some xs => if (Go.Lib.join xs sep).length ≤ 140737488355328 ∧ len ≤ 140737488355328 then some (.str (Go.Lib.join xs sep)) else none
      | none => none
    | none => none
    else none
  | _, _ => none
def xRepeat : List AV → Option AV
  | [.str s, .int .i64 n] => if 0 ≤ n ∧ n ≤ 9223372036854775807 ∧ s.length * n.toNat ≤ 140737488355328 then some (.str (Go.Lib.repeatL s n.toNat)) else none
  | _ => none

/-- What stands ahead of i and from j on, the rest laid to zero (elements of three numbers). -/
def xDelete3 : List AV → AH → Option (AV × AH)
  | [.slice c k off n e, .int .i64 i, .int .i64 j], h => if e = 3 ∧ 0 ≤ i ∧ i < j ∧ j ≤ (n : Int) ∧ n ≤ 1099511627776 then match rdRow h c k (off + j.toNat * 3) ((n - j.toNat) * 3) with
    | some cs => match wrRow h c k (off + i.toNat * 3) cs with
      | some h1 => match wrRow h1 c k (off + (i.toNat + (n - j.toNat)) * 3) (List.replicate ((j.toNat - i.toNat) * 3) (.int .i64 0)) with
        | some h2 => some (.slice c k off (n - (j.toNat - i.toNat)) 3, h2)
        | none => none
      | none => none
    | none => none
    else none
  | _, _ => none

def xtab : List (Nat × (List AV → AH → Option AV)) := [(111, fun xs _ => xTrim xs), (190, fun xs _ => xIndexByte xs), (194, fun xs _ => xIndex xs), (126, fun xs _ => xContains xs), (131, fun xs _ => xCount xs)]
def ytab : List (Nat × (List AV → AH → Option (AV × AH))) := [(220, xDelete3)]
def E : Ext := fun f => match xtab.find? fun x => x.1 == f with
  | some x => some (pureX x.2)
  | none => (ytab.find? fun x => x.1 == f).map fun x => fun _ xs h => x.2 xs h
theorem hE : EMono E := by
  intro f G h cf cf' _ xs hh r hr
  unfold E at h
  split at h
  · cases h; exact hr
  · simp only [Option.map_eq_some_iff] at h
    obtain ⟨x, _, rfl⟩ := h
    exact hr
end Go.Proofs.YtmlmfjjfciiblaaGreatDoor.Ab

/- THE RELATION between the abstract machine's states and the model's. -/
namespace Go.Proofs.YtmlmfjjfciiblaaGreatDoor.Ab
open Go Go.RowKit

structure Place where
  blk : Nat
  base : Nat
  lo : Nat
  ext : Nat
  siz : Nat

structure Emb where
  row : Nat → Nat → Option Place
  obj : Nat → Option Nat

mutual
def RelV (F : Nat → Nat) (m : Emb) : AV → Value → Prop
  | .int k n, v => v = .int k n
  | .bool b, v => v = .bool b
  | .str s, v => v = .string ⟨s.toArray⟩
  | .nilS, v => v = .slice none 0 0
  | .empS, v => ∃ a, v = .slice (some a) 0 0
  | .slice c k off len esz, v => ∃ p o cap, m.row c k = some p ∧ v = .slice (some ⟨p.blk, o, none⟩) len cap ∧ len ≤ cap ∧
      (cap = 0 ∨ (p.lo ≤ off ∧ o = p.base + (off - p.lo) ∧ off + len * esz ≤ p.ext ∧ p.base + (off - p.lo) + cap * esz ≤ p.siz))
  | .nilP, v => v = .pointer none
  | .ptr c k off n, v => ∃ p, m.row c k = some p ∧ v = .pointer (some ⟨p.blk, p.base + (off - p.lo), none⟩) ∧ p.lo ≤ off ∧ off + n ≤ p.ext
  | .nilM, v => v = .map none
  | .map c, v => ∃ b, m.obj c = some b ∧ v = .map (some b)
  | .iter c, v => ∃ b, m.obj c = some b ∧ v = .pointer (some ⟨b, 0, none⟩)
  | .fn f cap, v => ∃ vs, v = .func (.func (F f)) #[] vs ∧ RelL F m cap vs.toList
  | .nilF, v => v = .nilFunc
  | .agg xs, v => ∃ vs, v = .agg vs ∧ RelL F m xs vs.toList
  | .tup xs, v => ∃ vs, v = .tuple vs ∧ RelL F m xs vs.toList
  | .nilI, v => v = .nilIface
  | .ifc, v => ∃ t u, v = .iface t u
  | .undef, _ => True
def RelL (F : Nat → Nat) (m : Emb) : List AV → List Value → Prop
  | [], l => l = []
  | x :: xs, l => ∃ v vs, l = v :: vs ∧ RelV F m x v ∧ RelL F m xs vs
end

def RelE (F : Nat → Nat) (m : Emb) : List (AV × AV) → List MapEntry → Prop
  | [], l => l = []
  | (k, v) :: es, l => ∃ e l', l = e :: l' ∧ RelV F m k e.key ∧ RelV F m v e.val ∧ RelE F m es l'

def Emb.le (m m' : Emb) : Prop := (∀ c k p, m.row c k = some p → m'.row c k = some p) ∧ ∀ c b, m.obj c = some b → m'.obj c = some b
theorem Emb.le_refl (m : Emb) : m.le m := ⟨fun _ _ _ h => h, fun _ _ h => h⟩
theorem Emb.le_trans {m m' m'' : Emb} (h : m.le m') (h' : m'.le m'') : m.le m'' := ⟨fun _ _ _ x => h'.1 _ _ _ (h.1 _ _ _ x), fun _ _ x => h'.2 _ _ (h.2 _ _ x)⟩

mutual
theorem RelV.mono {F : Nat → Nat} {m m' : Emb} (hm : m.le m') : ∀ (x : AV) (v : Value), RelV F m x v → RelV F m' x v
  | .int .., _, h | .bool _, _, h | .str _, _, h | .nilS, _, h | .empS, _, h | .nilP, _, h | .nilM, _, h | .nilF, _, h | .nilI, _, h | .ifc, _, h | .undef, _, h => by simp only [RelV] at h ⊢ <;> exact h
  | .slice .., _, h => by
    simp only [RelV] at h ⊢
    obtain ⟨p, o, cap, h1, h2⟩ := h
    exact ⟨p, o, cap, hm.1 _ _ _ h1, h2⟩
  | .ptr .., _, h => by
    simp only [RelV] at h ⊢
    obtain ⟨p, h1, h2⟩ := h
    exact ⟨p, hm.1 _ _ _ h1, h2⟩
  | .map _, _, h => by
    simp only [RelV] at h ⊢
    obtain ⟨b, h1, h2⟩ := h
    exact ⟨b, hm.2 _ _ h1, h2⟩
  | .iter _, _, h => by
    simp only [RelV] at h ⊢
    obtain ⟨b, h1, h2⟩ := h
    exact ⟨b, hm.2 _ _ h1, h2⟩
  | .fn _ cap, _, h => by
    simp only [RelV] at h ⊢
    obtain ⟨vs, h1, h2⟩ := h
    exact ⟨vs, h1, RelL.mono hm cap _ h2⟩
  | .agg xs, _, h => by
    simp only [RelV] at h ⊢
    obtain ⟨vs, h1, h2⟩ := h
    exact ⟨vs, h1, RelL.mono hm xs _ h2⟩
  | .tup xs, _, h => by
    simp only [RelV] at h ⊢
    obtain ⟨vs, h1, h2⟩ := h
    exact ⟨vs, h1, RelL.mono hm xs _ h2⟩
theorem RelL.mono {F : Nat → Nat} {m m' : Emb} (hm : m.le m') : ∀ (xs : List AV) (l : List Value), RelL F m xs l → RelL F m' xs l
  | [], _, h => by simpa only [RelL] using h
  | x :: xs, _, h => by
    simp only [RelL] at h ⊢
    obtain ⟨v, vs, h1, h2, h3⟩ := h
    exact ⟨v, vs, h1, RelV.mono hm x v h2, RelL.mono hm xs vs h3⟩
end

theorem RelE.mono {F : Nat → Nat} {m m' : Emb} (hm : m.le m') : ∀ (es : List (AV × AV)) (l : List MapEntry), RelE F m es l → RelE F m' es l
  | [], _, h => h
  | (k, v) :: es, l, h => by
    obtain ⟨e, l', h1, h2, h3, h4⟩ := h
    exact ⟨e, l', h1, RelV.mono hm _ _ h2, RelV.mono hm _ _ h3, RelE.mono hm es l' h4⟩

/-! ### Lists -/
theorem RelL.length {F : Nat → Nat} {m : Emb} : ∀ {xs : List AV} {l : List Value}, RelL F m xs l → l.length = xs.length
  | [], _, h => by simp only [RelL] at h; subst h; rfl
  | x :: xs, _, h => by
    simp only [RelL] at h
    obtain ⟨v, vs, rfl, _, h3⟩ := h
    simp [RelL.length h3]
theorem RelL.get {F : Nat → Nat} {m : Emb} : ∀ {xs : List AV} {l : List Value}, RelL F m xs l → ∀ (i : Nat) (x : AV), xs[i]? = some x → ∃ v, l[i]? = some v ∧ RelV F m x v
  | [], _, _, i, x, hx => by simp at hx
  | y :: xs, _, h, i, x, hx => by
    simp only [RelL] at h
    obtain ⟨v, vs, rfl, h2, h3⟩ := h
    cases i with
    | zero => simp at hx; subst hx; exact ⟨v, rfl, h2⟩
    | succ i => simp at hx; simpa using RelL.get h3 i x hx
theorem RelL.of {F : Nat → Nat} {m : Emb} : ∀ {xs : List AV} {l : List Value}, l.length = xs.length → (∀ (i : Nat) (x : AV) (v : Value), xs[i]? = some x → l[i]? = some v → RelV F m x v) → RelL F m xs l
  | [], l, hl, _ => by simp only [RelL]; exact List.eq_nil_of_length_eq_zero (by simpa using hl)
  | x :: xs, [], hl, _ => by simp at hl
  | x :: xs, v :: l, hl, h => by
    simp only [RelL]
    exact ⟨v, l, rfl, h 0 x v rfl rfl, RelL.of (by simpa using hl) fun i y u hy hu => h (i + 1) y u (by simpa using hy) (by simpa using hu)⟩
theorem RelL.append {F : Nat → Nat} {m : Emb} : ∀ {xs ys : List AV} {l l' : List Value}, RelL F m xs l → RelL F m ys l' → RelL F m (xs ++ ys) (l ++ l')
  | [], _, _, _, h, h' => by simp only [RelL] at h; subst h; simpa using h'
  | x :: xs, _, _, _, h, h' => by
    simp only [RelL] at h
    obtain ⟨v, vs, rfl, h2, h3⟩ := h
    simp only [List.cons_append, RelL]
    exact ⟨v, _, rfl, h2, h3.append h'⟩
theorem RelL.take {F : Nat → Nat} {m : Emb} (n : Nat) : ∀ {xs : List AV} {l : List Value}, RelL F m xs l → RelL F m (xs.take n) (l.take n)
  | [], _, h => by simp only [RelL] at h; subst h; simp [RelL]
  | x :: xs, _, h => by
    simp only [RelL] at h
    obtain ⟨v, vs, rfl, h2, h3⟩ := h
    cases n with
    | zero => simp [RelL]
    | succ n => simp only [List.take_succ_cons, RelL]; exact ⟨v, _, rfl, h2, h3.take n⟩
theorem RelL.drop {F : Nat → Nat} {m : Emb} (n : Nat) : ∀ {xs : List AV} {l : List Value}, RelL F m xs l → RelL F m (xs.drop n) (l.drop n)
  | [], _, h => by simp only [RelL] at h; subst h; simp [RelL]
  | x :: xs, _, h => by
    cases n with
    | zero => simpa using h
    | succ n =>
      simp only [RelL] at h
      obtain ⟨v, vs, rfl, h2, h3⟩ := h
      simpa using h3.drop n

/-- The cells of related values are related. -/
theorem RelV.cells {F : Nat → Nat} {m : Emb} {x : AV} {v : Value} (h : RelV F m x v) (hx : ∀ xs, x ≠ .tup xs) (hu : x ≠ .undef) : RelL F m x.cells v.cells.toList := by
  cases x <;> first
    | exact absurd rfl hu
    | exact absurd rfl (hx _)
    | (simp only [RelV] at h; obtain ⟨vs, rfl, h2⟩ := h; exact h2)
    | (have h' := h; simp only [RelV] at h'
       first
         | (subst h'; simp only [AV.cells, Value.cells, RelL]; exact ⟨_, _, rfl, h, rfl⟩)
         | (obtain ⟨a, rfl⟩ := h'; simp only [AV.cells, Value.cells, RelL]; exact ⟨_, _, rfl, h, rfl⟩)
         | (obtain ⟨a, b, rfl⟩ := h'; simp only [AV.cells, Value.cells, RelL]; exact ⟨_, _, rfl, h, rfl⟩)
         | (obtain ⟨a, h1, rfl⟩ := h'; simp only [AV.cells, Value.cells, RelL]; exact ⟨_, _, rfl, h, rfl⟩)
         | (obtain ⟨a, rfl, h1⟩ := h'; simp only [AV.cells, Value.cells, RelL]; exact ⟨_, _, rfl, h, rfl⟩)
         | (obtain ⟨a, h1, rfl, h2⟩ := h'; simp only [AV.cells, Value.cells, RelL]; exact ⟨_, _, rfl, h, rfl⟩)
         | (obtain ⟨a, b, c, h1, rfl, h2⟩ := h'; simp only [AV.cells, Value.cells, RelL]; exact ⟨_, _, rfl, h, rfl⟩))

theorem RelV.one {F : Nat → Nat} {m : Emb} {x : AV} {v : Value} (h : RelV F m x v) (hx : x.sc = true) : v.oneCell' = true := by
  cases x <;> simp only [AV.sc] at hx <;> first
    | (cases hx; done)
    | (simp only [RelV] at h
       first
         | (subst h; rfl)
         | (obtain ⟨a, rfl⟩ := h; rfl)
         | (obtain ⟨a, b, rfl⟩ := h; rfl)
         | (obtain ⟨a, h1, rfl⟩ := h; rfl)
         | (obtain ⟨a, rfl, h1⟩ := h; rfl)
         | (obtain ⟨a, h1, rfl, h2⟩ := h; rfl)
         | (obtain ⟨a, b, c, h1, rfl, h2⟩ := h; rfl))

/-! ### Heaps -/
def ObjRel (F : Nat → Nat) (base : Nat) (m : Emb) (w : World) (c : Nat) : AO → Prop
  | .row cs ver fl ro => ∀ k p, m.row c k = some p → fl ≤ k → k ≤ ver ∧ p.ext ≤ cs.length ∧ (k = ver → p.ext = cs.length) ∧ (ro = false → base ≤ p.blk) ∧
      ∃ C e fr, w.heap[p.blk]? = some (.cells C e fr) ∧ C.size = p.siz ∧ p.base + (p.ext - p.lo) ≤ p.siz ∧ (ro = false → p.siz ≤ fr.1 ∨ fr.2 ≤ fr.1) ∧
        ∀ j, p.lo ≤ j → j < p.ext → ∃ x v, cs[j]? = some x ∧ C[p.base + (j - p.lo)]? = some v ∧ RelV F m x v
  | .map es => ∀ b, m.obj c = some b → base ≤ b ∧ ∃ E clk, w.heap[b]? = some (.map E clk) ∧ RelE F m es E.toList
  | .iter s pos => ∀ b, m.obj c = some b → base ≤ b ∧ w.heap[b]? = some (.stringIter ⟨s.toArray⟩ pos)

def AO.isRow : AO → Bool
  | .row .. => true
  | _ => false

structure RelH (F : Nat → Nat) (base : Nat) (m : Emb) (h : AH) (w : World) : Prop where
  rowc : ∀ c k p, m.row c k = some p → ∃ o, h[c]? = some o ∧ o.isRow = true
  objc : ∀ c b, m.obj c = some b → ∃ o, h[c]? = some o ∧ o.isRow = false
  ob : ∀ c o, h[c]? = some o → ObjRel F base m w c o
  inj : ∀ c k p c' k' p', m.row c k = some p → m.row c' k' = some p' → base ≤ p.blk → p.blk = p'.blk → c = c' ∧ p.base + p'.lo = p'.base + p.lo ∧ p.siz = p'.siz
  injo : ∀ c c' b, m.obj c = some b → m.obj c' = some b → c = c'
  injr : ∀ c k p c' b, m.row c k = some p → m.obj c' = some b → p.blk ≠ b
  ltr : ∀ c k p, m.row c k = some p → p.blk < w.heap.size
  lto : ∀ c b, m.obj c = some b → b < w.heap.size
  vers : ∀ c cs ver fl ro k p, h[c]? = some (.row cs ver fl ro) → m.row c k = some p → k ≤ ver
  le : base ≤ w.heap.size

def Emb.has (m : Emb) (b : Nat) : Prop := (∃ c k p, m.row c k = some p ∧ p.blk = b) ∨ ∃ c, m.obj c = some b
def Emb.placed (m : Emb) (c : Nat) : Prop := (∃ k p, m.row c k = some p) ∨ ∃ b, m.obj c = some b

/-- What a piece of the run does. -/
structure StepR (F : Nat → Nat) (base : Nat) (m : Emb) (h : AH) (w : World) (m' : Emb) (h' : AH) (w' : World) : Prop where
  le : m.le m'
  rel : RelH F base m' h' w'
  os : w'.os = w.os
  tape : w'.tape = w.tape
  out : w'.output = w.output
  size : w.heap.size ≤ w'.heap.size
  frame : ∀ b, b < w.heap.size → (b < base ∨ ¬ m.has b) → w'.heap[b]? = w.heap[b]?
  newr : ∀ c k p, m'.row c k = some p → m.row c k = some p ∨ ((h.length ≤ c ∨ ∃ k0 p0, m.row c k0 = some p0) ∧ (w.heap.size ≤ p.blk ∨ ∃ k0 p0, m.row c k0 = some p0 ∧ p0.blk = p.blk))
  newo : ∀ c b, m'.obj c = some b → m.obj c = some b ∨ (h.length ≤ c ∧ w.heap.size ≤ b)
  unpl : ∀ c, c < h.length → ¬ m.placed c → h'[c]? = h[c]?
  len : h.length ≤ h'.length

theorem StepR.refl {F : Nat → Nat} {base : Nat} {m : Emb} {h : AH} {w : World} (hr : RelH F base m h w) : StepR F base m h w m h w :=
  ⟨Emb.le_refl m, hr, rfl, rfl, rfl, Nat.le_refl _, fun _ _ _ => rfl, fun _ _ _ h => .inl h, fun _ _ h => .inl h, fun _ _ _ => rfl, Nat.le_refl _⟩

theorem StepR.trans {F : Nat → Nat} {base : Nat} {m m' m'' : Emb} {h h' h'' : AH} {w w' w'' : World} (a : StepR F base m h w m' h' w') (b : StepR F base m' h' w' m'' h'' w'') :
    StepR F base m h w m'' h'' w'' where
  le := Emb.le_trans a.le b.le
  rel := b.rel
  os := b.os.trans a.os
  tape := b.tape.trans a.tape
  out := b.out.trans a.out
  size := Nat.le_trans a.size b.size
  frame := by
    intro i hi hb
    rw [b.frame i (Nat.lt_of_lt_of_le hi a.size) ?_, a.frame i hi hb]
    rcases hb with hb | hb
    · exact .inl hb
    · refine .inr fun hh => hb ?_
      rcases hh with ⟨c, k, p, h1, h2⟩ | ⟨c, h1⟩
      · rcases a.newr c k p h1 with h3 | ⟨_, h3 | ⟨k0, p0, h3, h4⟩⟩
        · exact .inl ⟨c, k, p, h3, h2⟩
        · omega
        · exact .inl ⟨c, k0, p0, h3, h4.trans h2⟩
      · rcases a.newo c i h1 with h3 | ⟨_, h3⟩
        · exact .inr ⟨c, h3⟩
        · omega
  newr := by
    intro c k p h1
    rcases b.newr c k p h1 with h2 | ⟨h2, h3⟩
    · exact a.newr c k p h2
    · refine .inr ⟨?_, ?_⟩
      · rcases h2 with h2 | ⟨k0, p0, h2⟩
        · exact .inl (Nat.le_trans a.len h2)
        · rcases a.newr c k0 p0 h2 with h4 | ⟨h4, _⟩
          · exact .inr ⟨k0, p0, h4⟩
          · exact h4
      · rcases h3 with h3 | ⟨k0, p0, h3, h4⟩
        · exact .inl (Nat.le_trans a.size h3)
        · rcases a.newr c k0 p0 h3 with h5 | ⟨_, h5 | ⟨k1, p1, h5, h6⟩⟩
          · exact .inr ⟨k0, p0, h5, h4⟩
          · exact .inl (h4 ▸ h5)
          · exact .inr ⟨k1, p1, h5, h6.trans h4⟩
  newo := by
    intro c i h1
    rcases b.newo c i h1 with h2 | ⟨h2, h3⟩
    · exact a.newo c i h2
    · exact .inr ⟨Nat.le_trans a.len h2, Nat.le_trans a.size h3⟩
  unpl := by
    intro c hc hn
    rw [b.unpl c (Nat.lt_of_lt_of_le hc a.len) ?_, a.unpl c hc hn]
    rintro (⟨k, p, h1⟩ | ⟨i, h1⟩)
    · rcases a.newr c k p h1 with h2 | ⟨h2 | ⟨k0, p0, h2⟩, _⟩
      · exact hn (.inl ⟨k, p, h2⟩)
      · omega
      · exact hn (.inl ⟨k0, p0, h2⟩)
    · rcases a.newo c i h1 with h2 | ⟨h2, _⟩
      · exact hn (.inr ⟨i, h2⟩)
      · omega
  len := Nat.le_trans a.len b.len

theorem StepR.below {F : Nat → Nat} {base : Nat} {m m' : Emb} {h h' : AH} {w w' : World} (a : StepR F base m h w m' h' w') (hb : base ≤ w.heap.size) : Below base w w' :=
  ⟨a.os, a.tape, a.out, a.size, fun i hi => a.frame i (Nat.lt_of_lt_of_le hi hb) (.inl hi)⟩

/-! ### Environments -/
def RelEnv (F : Nat → Nat) (m : Emb) (e : Env) (tmps : Array Value) : Prop := ∀ t, RelV F m (e.get t) (tmps.getD t undef)
theorem RelEnv.mono {F : Nat → Nat} {m m' : Emb} {e : Env} {tmps : Array Value} (hm : m.le m') (h : RelEnv F m e tmps) : RelEnv F m' e tmps := fun t => RelV.mono hm _ _ (h t)
theorem Env.get_set (e : Env) (t u : Nat) (v : AV) : (e.set t v).get u = if t = u then v else e.get u := by
  induction e with
  | nil => simp only [Env.set, Env.get]
  | cons x e ih =>
    obtain ⟨k, y⟩ := x
    simp only [Env.set]
    by_cases h : k = t
    · simp only [if_pos h, Env.get]; subst h; split <;> rfl
    · simp only [if_neg h]
      split
      · simp only [Env.get]
      · simp only [Env.get, ih]
        by_cases h1 : k = u
        · simp only [if_pos h1]; rw [if_neg]; omega
        · simp only [if_neg h1]
theorem Env.get_del (e : Env) (t u : Nat) : (e.del t).get u = if t = u then .undef else e.get u := by
  induction e with
  | nil => simp [Env.del, Env.get]
  | cons x e ih =>
    obtain ⟨k, y⟩ := x
    simp only [Env.del]
    by_cases h : k = t
    · simp only [if_pos h, ih, Env.get]; subst h; split <;> rfl
    · simp only [if_neg h, Env.get, ih]
      by_cases h1 : k = u
      · simp only [if_pos h1]; rw [if_neg]; omega
      · simp only [if_neg h1]
theorem RelEnv.del {F : Nat → Nat} {m : Emb} {e : Env} {tmps : Array Value} (h : RelEnv F m e tmps) (t : Nat) : RelEnv F m (e.del t) tmps := by
  intro u
  rw [Env.get_del]
  split
  · simp only [RelV]
  · exact h u
theorem RelEnv.dels {F : Nat → Nat} {m : Emb} {tmps : Array Value} : ∀ (ts : List Nat) {e : Env}, RelEnv F m e tmps → RelEnv F m (e.dels ts) tmps
  | [], _, h => h
  | t :: ts, _, h => RelEnv.dels ts (h.del t)
theorem getD_set (tmps : Array Value) (t u : Nat) (v : Value) : (tmps.setIfInBounds t v).getD u undef = if t = u ∧ t < tmps.size then v else tmps.getD u undef := by
  simp only [Array.getD_eq_getD_getElem?, Array.getElem?_setIfInBounds]
  by_cases h : t = u
  · subst h
    by_cases h2 : t < tmps.size <;> simp [h2]
  · simp [h]
theorem RelEnv.put {F : Nat → Nat} {m : Emb} {e : Env} {a : Act} (h : RelEnv F m e a.tmps) {r : AV} {v : Value} (hv : RelV F m r v) (d : Option Nat) (hd : ∀ t, d = some t → t < a.tmps.size) :
    RelEnv F m (Ab.put e d r) (a.put d v).tmps := by
  cases d with
  | none => exact h
  | some t =>
    intro u
    simp only [Ab.put, Act.put, Env.get_set]
    rw [getD_set]
    have := hd t rfl
    by_cases h1 : t = u
    · simp only [if_pos h1, if_pos (And.intro h1 this)]; exact hv
    · simp only [if_neg h1, h1, false_and, if_false]; exact h u
theorem init_get : ∀ (xs : List AV) (i t : Nat), (Env.init i xs).get t = if i ≤ t ∧ t < i + xs.length then xs.getD (t - i) .undef else .undef
  | [], i, t => by simp [Env.init, Env.get]
  | x :: xs, i, t => by
    simp only [Env.init, Env.get, init_get xs (i + 1) t, List.length_cons]
    by_cases h : i = t
    · subst h; simp
    · simp only [if_neg h]
      by_cases h1 : i + 1 ≤ t ∧ t < i + 1 + xs.length
      · rw [if_pos h1, if_pos (by omega)]
        obtain ⟨d, rfl⟩ : ∃ d, t = i + 1 + d := ⟨t - (i + 1), by omega⟩
        rw [show i + 1 + d - i = d + 1 by omega, show i + 1 + d - (i + 1) = d by omega]; simp
      · rw [if_neg h1, if_neg (by omega)]

end Go.Proofs.YtmlmfjjfciiblaaGreatDoor.Ab

/- THE CHECKER: is a compact literal the model's code? Evaluated by the kernel. -/
namespace Go.Proofs.YtmlmfjjfciiblaaGreatDoor.Ab
open Go

def nilSv : Value → Bool
  | .slice none 0 0 => true
  | _ => false
def nilPv : Value → Bool
  | .pointer none => true
  | _ => false
def nilMv : Value → Bool
  | .map none => true
  | _ => false
theorem nilSv_eq {v : Value} (h : nilSv v = true) : v = .slice none 0 0 := by
  unfold nilSv at h; split at h
  · rfl
  · cases h
theorem nilPv_eq {v : Value} (h : nilPv v = true) : v = .pointer none := by
  unfold nilPv at h; split at h
  · rfl
  · cases h
theorem nilMv_eq {v : Value} (h : nilMv v = true) : v = .map none := by
  unfold nilMv at h; split at h
  · rfl
  · cases h

mutual
def chkV (F : Nat → Nat) : AV → Value → Bool
  | .int k n, .int k' n' => decide (k = k') && decide (n = n')
  | .bool b, .bool b' => b == b'
  | .str s, .string t => decide (t.data.toList = s)
  | .nilS, v => nilSv v
  | .nilP, v => nilPv v
  | .nilM, v => nilMv v
  | .nilF, .nilFunc => true
  | .nilI, .nilIface => true
  | .agg xs, .agg vs => chkVs F xs vs.toList
  | .tup xs, .tuple vs => chkVs F xs vs.toList
  | _, _ => false
def chkVs (F : Nat → Nat) : List AV → List Value → Bool
  | [], [] => true
  | x :: xs, v :: vs => chkV F x v && chkVs F xs vs
  | _, _ => false
end

def chkO (F : Nat → Nat) : Operand → Opd → Bool
  | .tmp t, .t n => decide (t = n)
  | .const v, .c x => chkV F x v
  | .func f, .c (.fn g []) => decide (F g = f)
  | _, _ => false
def chkOs (F : Nat → Nat) : List Operand → List Opd → Bool
  | [], [] => true
  | x :: xs, y :: ys => chkO F x y && chkOs F xs ys
  | _, _ => false
def chkOo (F : Nat → Nat) : Option Operand → Option Opd → Bool
  | none, none => true
  | some x, some y => chkO F x y
  | _, _ => false

section
variable (P : Program) (F : Nat → Nat)
def isB (t : TypeId) : Bool := match P.underlying t with | some .bool => true | _ => false
def isI (t : TypeId) (k : IntKind) : Bool := match P.underlying t with | some (.int k') => decide (k' = k) | _ => false
def isS (t : TypeId) : Bool := match P.underlying t with | some .string => true | _ => false
def sz (t : TypeId) (n : Nat) : Bool := match P.info? t with | some i => decide (i.size = n) | none => false
def by64 (t : TypeId) : Bool := match P.info? t with | some i => decide (i.bytes ≤ 64) | none => false
def zer (t : TypeId) (z : List AV) : Bool := match P.info? t with
  | some i => match i.zero with
    | some v => chkVs F z v.cells.toList && z.all AV.sc
    | none => false
  | none => false
def isAg (t : TypeId) (agg : Bool) : Bool := match P.underlying t with
  | some (.struct _) | some (.array _ _) => agg
  | some _ => !agg
  | none => false
/-- a type's value: aggregate or not, so many cells -/
def shp (t : TypeId) (agg : Bool) (n : Nat) : Bool := isAg P t agg && sz P t n && (agg || decide (n = 1))
def hasT (t : TypeId) : Bool := (P.underlying t).isSome
def sliceOf (t : TypeId) (esz : Nat) : Bool := match P.underlying t with | some (.slice e) => sz P e esz | _ => false
def arrOf (t : TypeId) (len esz : Nat) : Bool := match P.underlying t with | some (.array n e) => decide (n = len) && sz P e esz | _ => false
def placesF (fs : Array Field) : List (Nat × Operand) → List (Nat × Nat × Opd) → Bool
  | [], [] => true
  | (i, x) :: ps, (off, n, y) :: qs => (match fs[i]? with | some f => decide (f.offset = off) && sz P f.type n | none => false) && chkO F x y && placesF fs ps qs
  | _, _ => false
def placesA (esz : Nat) : List (Nat × Operand) → List (Nat × Nat × Opd) → Bool
  | [], [] => true
  | (i, x) :: ps, (off, n, y) :: qs => decide (i * esz = off) && decide (n = esz) && chkO F x y && placesA esz ps qs
  | _, _ => false
def szAll (fs : Array Field) : Bool := fs.toList.all fun f => (P.info? f.type).isSome
def nilT (t : TypeId) (kd : Nat) : Operand → Bool
  | .const v => match P.underlying t with
    | some (.slice _) => decide (kd = 0) && nilSv v
    | some (.pointer _) => decide (kd = 1) && nilPv v
    | some (.map _ _) => decide (kd = 2) && nilMv v
    | some (.func _ _ _) => decide (kd = 3) && (match v with | .nilFunc => true | _ => false)
    | some (.interface _) => decide (kd = 4) && (match v with | .nilIface => true | _ => false)
    | _ => false
  | _ => false
def keyD (kd : Nat) : TypeDesc → Bool
  | .int _ => decide (kd = 0)
  | .string => decide (kd = 1)
  | .bool => decide (kd = 2)
  | _ => false
/-- a struct all of whose fields are numbers, bools and strings, each in its cell -/
def flatFs : List Field → Nat → List Nat → Bool
  | [], _, [] => true
  | f :: fs, i, kd :: kds => decide (f.offset = i) && (match P.underlying f.type with | some d => keyD kd d | none => false) && sz P f.type 1 && decide (f.name ≠ "_") && flatFs fs (i + 1) kds
  | _, _, _ => false
def flatAgg (t : TypeId) (kds : List Nat) : Bool := match P.underlying t with
  | some (.struct fs) => flatFs P fs.toList 0 kds && !P.stoodInHeld t && !P.eqGuardType P.depth t
  | _ => false
def keyT (kd : Nat) (t : TypeId) : Bool := match P.underlying t with
  | some (.map k _) => match P.underlying k with
    | some d => keyD kd d
    | none => false
  | _ => false
def fnOk (f : FuncId) : Bool := match P.funcs[f]? with
  | some fn => fn.body.isSome && !(fn.name == "runtime.NumGoroutine")
  | none => false
def seqT (t : TypeId) : Bool := match P.underlying t with | some (.slice _) | some .string => true | _ => false

def zerN (t : TypeId) (n : Nat) : Bool := match P.info? t with
  | some i => match i.zero with
    | some v => decide (v.cells.size = n)
    | none => false
  | none => false
def chkCall (c : Call) : AOp → Bool
  | .call g xs => match c.callee with
    | .value (.func f) => decide (F g = f) && chkOs F c.args.toList xs
    | _ => false
  | .callv x xs => match c.callee with
    | .value y => chkO F y x && chkOs F c.args.toList xs
    | _ => false
  | .lenS x => match c.callee with
    | .builtin .len => match c.argTypes[0]?, c.args.toList with
      | some t, [y] => isS P t && chkO F y x
      | _, _ => false
    | _ => false
  | .lenV x => match c.callee with
    | .builtin .len => match c.argTypes[0]?, c.args.toList with
      | some t, [y] => (match P.underlying t with | some (.slice _) => true | _ => false) && chkO F y x
      | _, _ => false
    | _ => false
  | .mlen x => match c.callee with
    | .builtin .len => match c.argTypes[0]?, c.args.toList with
      | some t, [y] => (match P.underlying t with | some (.map _ _) => true | _ => false) && chkO F y x
      | _, _ => false
    | _ => false
  | .app esz s x => match c.callee with
    | .builtin .append => match c.argTypes[0]?, c.argTypes[1]?, c.args.toList with
      | some t, some t2, [y, z] => (match P.underlying t with | some (.slice e) => sz P e esz && by64 P e && zerN P e esz | _ => false) && seqT P t2 && chkO F y s && chkO F z x
      | _, _, _ => false
    | _ => false
  | .appS s x => match c.callee with
    | .builtin .append => match c.argTypes[0]?, c.argTypes[1]?, c.args.toList with
      | some t, some t2, [y, z] => (match P.underlying t with | some (.slice e) => sz P e 1 && by64 P e && zerN P e 1 | _ => false) && seqT P t2 && chkO F y s && chkO F z x
      | _, _, _ => false
    | _ => false
  | .copy esz s x => match c.callee with
    | .builtin .copy => match c.argTypes[0]?, c.args.toList with
      | some t, [y, z] => sliceOf P t esz && chkO F y s && chkO F z x
      | _, _ => false
    | _ => false
  | .clr z x => match c.callee with
    | .builtin .clear => match c.argTypes[0]?, c.args.toList with
      | some t, [y] => (match P.underlying t with | some (.slice e) => zer P F e z && decide (0 < z.length) | _ => false) && chkO F y x
      | _, _ => false
    | _ => false
  | .mmx mx x y => match c.callee with
    | .builtin b => (match b, mx with | .max, true | .min, false => true | _, _ => false) && chkOs F c.args.toList [x, y]
    | _ => false
  | _ => false

def chkOp : Op → AOp → Bool
  | .move x, .mov y | .assign x, .mov y => chkO F x y
  | .pick a b c, .pick x y z => chkO F a x && chkO F b y && chkO F c z
  | .binOp op _ a b _, .bin op' x y => decide (op = op') && chkO F a x && chkO F b y
  | .binOp op t a b _, .beq neg x y => decide (op = if neg then .neq else .eql) && isB P t && chkO F a x && chkO F b y
  | .binOp op t a b _, .aeq neg n x y => decide (op = if neg then .neq else .eql) && flatAgg P t n && chkO F a x && chkO F b y
  | .binOp op t a b _, .niq neg kd x => decide (op = if neg then .neq else .eql) && nilT P t kd b && chkO F a x
  | .unOp op _ a, .un op' x => decide (op = op') && chkO F a x
  | .convert s d a, .conv k x => hasT P s && isI P d k && chkO F a x
  | .convert s d a, .toB x => hasT P s && (match P.underlying d with | some (.slice e) => isI P e .u8 | _ => false) && chkO F a x
  | .convert s d a, .ofB x => (match P.underlying s with | some (.slice e) => isI P e .u8 | _ => false) && isS P d && chkO F a x
  | .convert s d a, .ofR x => hasT P s && isS P d && chkO F a x
  | .alloc t, .new z => zer P F t z
  | .box _ a, .box x => chkO F a x
  | .build t ps, .build z qs => zer P F t z && (match P.underlying t with
      | some (.struct fs) => szAll P fs && placesF P F fs ps.toList qs
      | some (.array _ e) => (match P.info? e with | some i => placesA F i.size ps.toList qs | none => false)
      | _ => false)
  | .buildSlice t n ps, .lit esz n' z qs => decide (n = n') && (match P.underlying t with
      | some (.slice e) => sz P e esz && decide (0 < esz) && decide (n * esz ≤ 2 ^ 24) && (match P.info? e with
        | some i => (match i.zero with | some v => chkVs F z ((Array.range (n * esz)).map (v.cells[· % v.cells.size]!)).toList && z.all AV.sc && decide (0 < n) | none => false)
        | none => false) && placesA F esz ps.toList qs
      | _ => false)
  | .buildSlice t 0 ps, .lit0 => ps.isEmpty && (match P.underlying t with
      | some (.slice e) => (P.info? e).isSome
      | _ => false)
  | .load t a, .load agg n x => shp P t agg n && chkO F a x
  | .store t a v, .store n x y => sz P t n && chkO F a x && chkO F v y
  | .nilCheck a, .nck x => chkO F a x
  | .fieldAddr t a f, .faddr off n x => (match P.underlying t with
      | some (.struct fs) => (match fs[f]? with | some g => decide (g.offset = off) && sz P g.type n && decide (0 < n) | none => false)
      | _ => false) && chkO F a x
  | .field t a f, .fld agg off n x => (match P.underlying t with
      | some (.struct fs) => (match fs[f]? with | some g => decide (g.offset = off) && shp P g.type agg n | none => false)
      | _ => false) && chkO F a x
  | .indexAddr t a i, .iaddr esz x y => sliceOf P t esz && chkO F a x && chkO F i y
  | .indexAddr t a i, .iaddrA len esz x y => arrOf P t len esz && chkO F a x && chkO F i y
  | .index t a i, .idx agg len esz x y => (match P.underlying t with | some (.array n e) => decide (n = len) && shp P e agg esz | _ => false) && chkO F a x && chkO F i y
  | .index t a i, .idxS x y => isS P t && chkO F a x && chkO F i y
  | .slice t a lo hi none, .sub esz x lo' hi' => sliceOf P t esz && decide (0 < esz) && chkO F a x && chkOo F lo lo' && chkOo F hi hi'
  | .slice t a none (some hi) (some mx), .sub0 x hi' mx' => (match P.underlying t with | some (.slice e) => (P.info? e).isSome | _ => false) && chkO F a x && chkO F hi hi' && chkO F mx mx'
  | .slice t a lo hi none, .subS x lo' hi' => isS P t && chkO F a x && chkOo F lo lo' && chkOo F hi hi'
  | .slice t a lo hi none, .subA len esz x lo' hi' => arrOf P t len esz && decide (0 < esz) && chkO F a x && chkOo F lo lo' && chkOo F hi hi'
  | .makeSlice t a b, .make esz z x y => (match P.underlying t with | some (.slice e) => sz P e esz && by64 P e && zer P F e z && decide (0 < esz) | _ => false) && chkO F a x && chkO F b y
  | .makeMap _ none, .mkmap => true
  | .makeMap t (some (.const (.int _ _))), .mkmap => (match P.underlying t with | some (.map _ _) => true | _ => false)
  | .makeFunc (.func f) first caps, .mkfn g ys => first.isEmpty && decide (F g = f) && chkOs F caps.toList ys
  | .lookup t a k ok, .look kd z ok' x y => decide (ok = ok') && keyT P kd t && (match P.underlying t with
      | some (.map _ e) => (match P.info? e with
        | some i => (match i.zero with | some v => chkV F z v | none => false)
        | none => false)
      | _ => false) && chkO F a x && chkO F k y
  | .mapUpdate t a k v, .mset kd x y z | .insert t a k v, .mset kd x y z => keyT P kd t && chkO F a x && chkO F k y && chkO F v z
  | .range t a, .rng x => isS P t && chkO F a x
  | .next a s, .nxt x => s && chkO F a x
  | .extract a i, .prj j x => decide (i = j) && chkO F a x
  | .call c, ao => chkCall P F c ao
  | _, _ => false

def chkG (ops : Array Oper) (o : Oper) (i : I) : Bool :=
  match o.guard, i.grd with
  | none, none => true
  | some (j, want), some (t, want') => decide (want = want') && decide ((ops[j]?).bind (·.dst) = some t)
  | _, _ => false
def chkD (nt : Nat) (d d' : Option Nat) : Bool := decide (d = d') && (match d with | some t => decide (t < nt) | none => true)
def chkI (nt : Nat) (ops : Array Oper) (o : Oper) (i : I) : Bool := chkD nt o.dst i.dst && chkG ops o i && chkOp P F o.op i.op
def chkIs (nt : Nat) (ops : Array Oper) : List Oper → List I → Bool
  | [], [] => true
  | o :: os, i :: is => chkI P F nt ops o i && chkIs nt ops os is
  | _, _ => false
end

end Go.Proofs.YtmlmfjjfciiblaaGreatDoor.Ab

/- MEMORY: what loads, stores, new rows, appends, maps and iterators do to the relation. -/
namespace Go.Proofs.YtmlmfjjfciiblaaGreatDoor.Ab
open Go Go.RowKit

theorem splice_length {α : Type} {l : List α} {o : Nat} {vs : List α} (h : o + vs.length ≤ l.length) : (splice l o vs).length = l.length := by
  simp only [splice, List.length_append, List.length_take, List.length_drop]; omega
theorem splice_get {α : Type} {l : List α} {o : Nat} {vs : List α} (h : o + vs.length ≤ l.length) (j : Nat) : (splice l o vs)[j]? = if j < o then l[j]? else if j < o + vs.length then vs[j - o]? else l[j]? := by
  unfold splice
  by_cases h1 : j < o
  · rw [if_pos h1, List.append_assoc, List.getElem?_append_left (by simp only [List.length_take]; omega), List.getElem?_take_of_lt h1]
  · rw [if_neg h1]
    by_cases h2 : j < o + vs.length
    · rw [if_pos h2, List.append_assoc, List.getElem?_append_right (by simp only [List.length_take]; omega), List.getElem?_append_left (by simp only [List.length_take]; omega)]
      congr 1
      simp only [List.length_take]; omega
    · rw [if_neg h2, List.getElem?_append_right (by simp only [List.length_append, List.length_take]; omega), List.getElem?_drop]
      congr 1
      simp only [List.length_append, List.length_take]; omega
theorem splice_cons {α : Type} (l : List α) (o : Nat) (v : α) (vs : List α) (h : o < l.length) : splice (l.set o v) (o + 1) vs = splice l o (v :: vs) := by
  apply List.ext_getElem?
  intro j
  unfold splice
  simp only [List.take_set, List.drop_set, List.length_cons, List.append_assoc]
  rw [if_pos (by omega), List.take_add_one]
  rw [show o + (vs.length + 1) = o + 1 + vs.length by omega]
  have : (List.take o l ++ l[o]?.toList).set o v = List.take o l ++ [v] := by
    rw [List.set_append_right _ _ (by simp only [List.length_take]; omega)]
    simp [List.getElem?_eq_getElem h, Nat.min_eq_left (Nat.le_of_lt h)]
  rw [this]
  simp

/-! ### The world -/
theorem addr_add (b o j : Nat) : (⟨b, o, none⟩ : Addr).add j = ⟨b, o + j, none⟩ := by unfold Addr.add; split <;> simp_all
theorem cell_at {w : World} {b i : Nat} {C : Array Value} {e : TypeId} {fr : Nat × Nat} (hg : w.heap[b]? = some (.cells C e fr)) : w.cell? ⟨b, i, none⟩ = C[i]? := by simp [World.cell?, hg]
def putRow (w : World) (b : Nat) (C : List Value) (e : TypeId) (fr : Nat × Nat) : World := { w with heap := w.heap.setIfInBounds b (.cells C.toArray e fr) }
theorem heap_lt {w : World} {b : Nat} {o : Obj} (h : w.heap[b]? = some o) : b < w.heap.size := (Array.getElem?_eq_some_iff.1 h).1
theorem setCell_put {w : World} {b i : Nat} {C : Array Value} {e : TypeId} {fr : Nat × Nat} {v : Value} (hg : w.heap[b]? = some (.cells C e fr)) : w.setCell ⟨b, i, none⟩ v = putRow w b (C.toList.set i v) e fr := by
  have hlt := heap_lt hg
  unfold World.setCell putRow
  congr 1
  apply Array.ext_getElem?
  intro j
  rw [Array.getElem?_modify, Array.getElem?_setIfInBounds]
  by_cases h : b = j
  · subst h
    rw [if_pos rfl, if_pos rfl, if_pos hlt, hg]
    simp only [Option.map_some, Option.some.injEq, Obj.cells.injEq, and_true, Option.isSome_none, Bool.false_eq_true, if_false]
    apply Array.ext'; simp
  · rw [if_neg h, if_neg h]
theorem putRow_get {w : World} {b : Nat} {C : List Value} {e : TypeId} {fr : Nat × Nat} (h : b < w.heap.size) (j : Nat) : (putRow w b C e fr).heap[j]? = if j = b then some (.cells C.toArray e fr) else w.heap[j]? := by
  unfold putRow
  simp only [Array.getElem?_setIfInBounds]
  by_cases h1 : b = j
  · subst h1; simp [h]
  · rw [if_neg h1, if_neg (Ne.symm h1)]
theorem putRow_put {w : World} {b : Nat} {C C' : List Value} {e : TypeId} {fr : Nat × Nat} : putRow (putRow w b C e fr) b C' e fr = putRow w b C' e fr := by
  unfold putRow
  congr 1
  simp

theorem run_stores {P : Program} (b o : Nat) (e : TypeId) (fr : Nat × Nat) : ∀ (vs : List Value) (i : Nat) (w : World) (C : List Value), w.heap[b]? = some (.cells C.toArray e fr) → o + i + vs.length ≤ C.length →
    (C.length ≤ fr.1 ∨ fr.2 ≤ fr.1) → (∀ v ∈ vs, v.oneCell' = true) → (storeCells ⟨b, o, none⟩ vs i).run P w = .ok () (putRow w b (splice C (o + i) vs) e fr)
  | [], i, w, C, hg, hl, hf, hv => by
    have hlt := heap_lt hg
    simp only [storeCells, Sem.run_pure, splice, List.length_nil, Nat.add_zero, List.append_nil, List.take_append_drop]
    congr 1
    unfold putRow
    have : w.heap.setIfInBounds b (.cells C.toArray e fr) = w.heap := by
      apply Array.ext_getElem?
      intro j
      rw [Array.getElem?_setIfInBounds]
      by_cases h : b = j
      · subst h; rw [if_pos rfl, if_pos hlt, hg]
      · rw [if_neg h]
    rw [this]
  | v :: vs, i, w, C, hg, hl, hf, hv => by
    have hlt := heap_lt hg
    simp only [List.length_cons] at hl
    have hc : w.cell? ⟨b, o + i, none⟩ = some C[o + i] := by rw [cell_at hg]; simp
    have hfz : w.frozen? ⟨b, o + i, none⟩ = false := by simp [World.frozen?, hg]; omega
    simp only [storeCells, Sem.run_bind, addr_add, run_store P w _ v .plain (hv v (by simp)), hc, hfz, Result.andThen, Bool.false_eq_true, if_false]
    rw [setCell_put hg]
    have ih := run_stores (P := P) b o e fr vs (i + 1) (putRow w b (C.set (o + i) v) e fr) (C.set (o + i) v) (by rw [putRow_get hlt, if_pos rfl]) (by simp; omega) (by simpa using hf) (fun u hu => hv u (by simp [hu]))
    simp only [List.toList_toArray] at ih ⊢
    rw [ih, putRow_put, ← Nat.add_assoc, splice_cons _ _ _ _ (by omega)]

/-! ### Loads -/
theorem RelH.row_at {F : Nat → Nat} {base : Nat} {m : Emb} {h : AH} {w : World} (hr : RelH F base m h w) {c k off n : Nat} {cs : List AV} (hrd : rdRow h c k off n = some cs) {p : Place} (hp : m.row c k = some p) (hlo : p.lo ≤ off) (hext : off + n ≤ p.ext) :
    ∃ vs : List Value, RelL F m cs vs ∧ vs.length = n ∧ ∀ j v, vs[j]? = some v → w.cell? ⟨p.blk, p.base + (off - p.lo) + j, none⟩ = some v := by
  unfold rdRow at hrd
  split at hrd
  · rename_i cells ver fl ro hc
    split at hrd
    · rename_i hcond
      obtain ⟨h1, h2, h3⟩ := hcond
      simp only [Option.some.injEq] at hrd
      subst hrd
      obtain ⟨_, _, _, _, C, e, fr, hg, hsz, hbs, _, hcell⟩ := hr.ob c _ hc k p hp h1
      refine ⟨(C.toList.drop (p.base + (off - p.lo))).take n, ?_, ?_, ?_⟩
      · refine RelL.of ?_ ?_
        · simp only [List.length_take, List.length_drop, Array.length_toList]; omega
        · intro i x v hx hv
          have hi : i < n := by
            by_cases hi : i < n
            · exact hi
            · rw [List.getElem?_take_eq_none (by omega)] at hx; cases hx
          rw [List.getElem?_take_of_lt hi, List.getElem?_drop] at hx hv
          obtain ⟨x', v', hx', hv', hxv⟩ := hcell (off + i) (by omega) (by omega)
          rw [hx'] at hx
          rw [Array.getElem?_toList, show p.base + (off - p.lo) + i = p.base + (off + i - p.lo) by omega, hv'] at hv
          cases hx; cases hv; exact hxv
      · simp only [List.length_take, List.length_drop, Array.length_toList]; omega
      · intro j v hv
        have hj : j < n := by
          by_cases hj : j < n
          · exact hj
          · rw [List.getElem?_take_eq_none (by omega)] at hv; cases hv
        rw [List.getElem?_take_of_lt hj, List.getElem?_drop, Array.getElem?_toList] at hv
        rw [cell_at hg, hv]
    · cases hrd
  · cases hrd

theorem RelH.siz {F : Nat → Nat} {base : Nat} {m : Emb} {h : AH} {w : World} (hr : RelH F base m h w) {c k off n : Nat} (hrd : (rdRow h c k off n).isSome = true) {p : Place} (hp : m.row c k = some p) : p.base + (p.ext - p.lo) ≤ p.siz := by
  unfold rdRow at hrd
  split at hrd
  · rename_i cells ver fl ro hc
    split at hrd
    · rename_i hcond
      obtain ⟨_, _, _, _, C, e, fr, hg, hsz, hbs, _⟩ := hr.ob c _ hc k p hp hcond.1
      exact hbs
    · cases hrd
  · cases hrd
theorem RelH.loads {P : Program} {F : Nat → Nat} {base : Nat} {m : Emb} {h : AH} {w : World} (hr : RelH F base m h w) {c k off n : Nat} {cs : List AV} (hrd : rdRow h c k off n = some cs) {p : Place} (hp : m.row c k = some p) (hlo : p.lo ≤ off) (hext : off + n ≤ p.ext) :
    ∃ vs : List Value, RelL F m cs vs ∧ vs.length = n ∧ (loadCells ⟨p.blk, p.base + (off - p.lo), none⟩ n).run P w = .ok vs.toArray w := by
  obtain ⟨vs, h1, h2, h3⟩ := hr.row_at hrd hp hlo hext
  refine ⟨vs, h1, h2, ?_⟩
  have := run_loadCells_list (P := P) w ⟨p.blk, p.base + (off - p.lo), none⟩ vs (fun j v hv => by rw [addr_add]; exact h3 j v hv)
  rwa [h2] at this

/-! ### The same heap, the world but for its draws -/
theorem ObjRel.congr {F : Nat → Nat} {base : Nat} {m : Emb} {w w' : World} {c : Nat} {o : AO} (hw : ∀ b : Nat, w'.heap[b]? = w.heap[b]?) (h : ObjRel F base m w c o) : ObjRel F base m w' c o := by
  cases o <;> simp only [ObjRel] at h ⊢ <;> simp only [hw] <;> exact h
theorem RelH.congr {F : Nat → Nat} {base : Nat} {m : Emb} {h : AH} {w w' : World} (hr : RelH F base m h w) (hw : w'.heap = w.heap) : RelH F base m h w' :=
  ⟨hr.rowc, hr.objc, fun c o ho => ObjRel.congr (fun b => by rw [hw]) (hr.ob c o ho), hr.inj, hr.injo, hr.injr, fun c k p h => by rw [hw]; exact hr.ltr c k p h, fun c b h => by rw [hw]; exact hr.lto c b h, hr.vers, by rw [hw]; exact hr.le⟩
theorem StepR.draw {F : Nat → Nat} {base : Nat} {m : Emb} {h : AH} {w w' : World} (hr : RelH F base m h w) (hh : w'.heap = w.heap) (ho : w'.os = w.os) (ht : w'.tape = w.tape) (hu : w'.output = w.output) : StepR F base m h w m h w' :=
  ⟨Emb.le_refl m, hr.congr hh, ho, ht, hu, by rw [hh]; exact Nat.le_refl _, fun _ _ _ => by rw [hh], fun _ _ _ h => .inl h, fun _ _ h => .inl h, fun _ _ _ => rfl, Nat.le_refl _⟩

/-! ### A new row -/
def Emb.addRow (m : Emb) (c k : Nat) (p : Place) : Emb := { m with row := fun c' k' => if c' = c ∧ k' = k then some p else m.row c' k' }
def Emb.addObj (m : Emb) (c b : Nat) : Emb := { m with obj := fun c' => if c' = c then some b else m.obj c' }
theorem Emb.addRow_at (m : Emb) (c k : Nat) (p : Place) : (m.addRow c k p).row c k = some p := by simp [Emb.addRow]
theorem Emb.addRow_inv {m : Emb} {c k c' k' : Nat} {p p' : Place} (h : (m.addRow c k p).row c' k' = some p') : (c' = c ∧ k' = k ∧ p' = p) ∨ m.row c' k' = some p' := by
  simp only [Emb.addRow] at h
  split at h
  · rename_i hh; cases h; exact .inl ⟨hh.1, hh.2, rfl⟩
  · exact .inr h
theorem Emb.addObj_inv {m : Emb} {c b c' b' : Nat} (h : (m.addObj c b).obj c' = some b') : (c' = c ∧ b' = b) ∨ m.obj c' = some b' := by
  simp only [Emb.addObj] at h
  split at h
  · rename_i hh; cases h; exact .inl ⟨hh, rfl⟩
  · exact .inr h
theorem Emb.le_addRow {m : Emb} {c k : Nat} {p : Place} (h : m.row c k = none) : m.le (m.addRow c k p) :=
  ⟨fun c' k' p' h' => by
    simp only [Emb.addRow]
    split
    · rename_i hh; obtain ⟨rfl, rfl⟩ := hh; rw [h] at h'; cases h'
    · exact h', fun _ _ h => h⟩
theorem Emb.le_addObj {m : Emb} {c b : Nat} (h : m.obj c = none) : m.le (m.addObj c b) :=
  ⟨fun _ _ _ h => h, fun c' b' h' => by
    simp only [Emb.addObj]
    split
    · rename_i hh; subst hh; rw [h] at h'; cases h'
    · exact h'⟩

/-- An object that lies as it lay, in a greater embedding that has nothing new of it. -/
theorem ObjRel.keep {F : Nat → Nat} {base : Nat} {m m' : Emb} {w w' : World} {c : Nat} {o : AO} (h : ObjRel F base m w c o) (hm : m.le m') (hrow : ∀ k p, m'.row c k = some p → m.row c k = some p) (hobj : ∀ b, m'.obj c = some b → m.obj c = some b)
    (hwr : ∀ k p, m.row c k = some p → w'.heap[p.blk]? = w.heap[p.blk]?) (hwo : ∀ b, m.obj c = some b → w'.heap[b]? = w.heap[b]?) : ObjRel F base m' w' c o := by
  cases o with
  | row cs ver fl ro =>
    intro k p hp hk
    obtain ⟨h1, h2, h3, h4, C, e, fr, hg, hs, hb, hf, hc⟩ := h k p (hrow k p hp) hk
    refine ⟨h1, h2, h3, h4, C, e, fr, by rw [hwr k p (hrow k p hp), hg], hs, hb, hf, fun j hj1 hj2 => ?_⟩
    obtain ⟨x, v, hx, hv, hxv⟩ := hc j hj1 hj2
    exact ⟨x, v, hx, hv, RelV.mono hm _ _ hxv⟩
  | map es =>
    intro b hb
    obtain ⟨h1, E, clk, hg, hE⟩ := h b (hobj b hb)
    exact ⟨h1, E, clk, by rw [hwo b (hobj b hb), hg], RelE.mono hm _ _ hE⟩
  | iter s pos =>
    intro b hb
    obtain ⟨h1, hg⟩ := h b (hobj b hb)
    exact ⟨h1, by rw [hwo b (hobj b hb), hg]⟩

theorem newRow_step {F : Nat → Nat} {base : Nat} {m : Emb} {h : AH} {w w' : World} (hr : RelH F base m h w) {cs : List AV} {c : Nat} {h' : AH} (hn : newRow h cs = some (c, h')) {vs rest : List Value} (hvs : RelL F m cs vs) {t : TypeId} {fr : Nat × Nat}
    (hfr : vs.length + rest.length ≤ fr.1 ∨ fr.2 ≤ fr.1) (hh : w'.heap = w.heap.push (.cells (vs ++ rest).toArray t fr)) (ho : w'.os = w.os) (ht : w'.tape = w.tape) (hu : w'.output = w.output) :
    c = h.length ∧ StepR F base m h w (m.addRow h.length 0 ⟨w.heap.size, 0, 0, cs.length, vs.length + rest.length⟩) h' w' := by
  unfold newRow at hn
  split at hn
  · rename_i hsc
    simp only [Option.some.injEq, Prod.mk.injEq] at hn
    obtain ⟨rfl, rfl⟩ := hn
    refine ⟨rfl, ?_⟩
    have hnone : ∀ k, m.row h.length k = none := by
      intro k
      cases hk : m.row h.length k with
      | none => rfl
      | some p => obtain ⟨o, ho, _⟩ := hr.rowc _ _ _ hk; simp at ho
    have hnone2 : m.obj h.length = none := by
      cases hk : m.obj h.length with
      | none => rfl
      | some p => obtain ⟨o, ho, _⟩ := hr.objc _ _ hk; simp at ho
    have hm : m.le (m.addRow h.length 0 ⟨w.heap.size, 0, 0, cs.length, vs.length + rest.length⟩) := Emb.le_addRow (hnone 0)
    have hold : ∀ b, b < w.heap.size → w'.heap[b]? = w.heap[b]? := by
      intro b hb
      rw [hh, Array.getElem?_push, if_neg (by omega)]
    have hlen := hvs.length
    refine ⟨hm, ?_, ho, ht, hu, by rw [hh]; simp, fun b hb _ => hold b hb, ?_, fun c b h => .inl h, ?_, by simp⟩
    · refine ⟨?_, ?_, ?_, ?_, hr.injo, ?_, ?_, ?_, ?_, by rw [hh]; have := hr.le; simp; omega⟩
      · intro c k p hp
        rcases Emb.addRow_inv hp with ⟨rfl, _, _⟩ | hp
        · exact ⟨.row cs 0 0 false, by simp, rfl⟩
        · obtain ⟨o, ho, hi⟩ := hr.rowc c k p hp
          exact ⟨o, by rw [List.getElem?_append_left (by have := List.getElem?_eq_some_iff.1 ho; exact this.1)]; exact ho, hi⟩
      · intro c b hb
        obtain ⟨o, ho, hi⟩ := hr.objc c b hb
        exact ⟨o, by rw [List.getElem?_append_left (by have := List.getElem?_eq_some_iff.1 ho; exact this.1)]; exact ho, hi⟩
      · intro c o hc
        by_cases hlt : c < h.length
        · rw [List.getElem?_append_left hlt] at hc
          refine ObjRel.keep (hr.ob c o hc) hm ?_ (fun b hb => hb) (fun k p hp => hold _ (hr.ltr c k p hp)) (fun b hb => hold _ (hr.lto c b hb))
          intro k p hp
          rcases Emb.addRow_inv hp with ⟨rfl, _, _⟩ | hp
          · omega
          · exact hp
        · rw [List.getElem?_append_right (by omega)] at hc
          have hce : c = h.length := by
            by_cases he : c = h.length
            · exact he
            · rw [List.getElem?_eq_none (by simp; omega)] at hc; cases hc
          subst hce
          simp only [Nat.sub_self, List.getElem?_cons_zero, Option.some.injEq] at hc
          subst hc
          intro k p hp _
          rcases Emb.addRow_inv hp with ⟨_, rfl, rfl⟩ | hp
          · refine ⟨Nat.le_refl _, Nat.le_refl _, fun _ => rfl, fun _ => hr.le, (vs ++ rest).toArray, t, fr, by rw [hh]; simp, by simp, by simp; omega, fun _ => hfr, ?_⟩
            intro j _ hj
            obtain ⟨x, hx⟩ : ∃ x, cs[j]? = some x := ⟨cs[j], by simp [hj]⟩
            obtain ⟨v, hv, hxv⟩ := hvs.get j x hx
            refine ⟨x, v, hx, ?_, RelV.mono hm _ _ hxv⟩
            simp only [Nat.zero_add, Nat.sub_zero, List.getElem?_toArray]
            rw [List.getElem?_append_left (by simp only at hj; omega)]; exact hv
          · rw [hnone k] at hp; cases hp
      · intro c k p c' k' p' hp hp' hb he
        rcases Emb.addRow_inv hp with ⟨rfl, rfl, rfl⟩ | hp <;> rcases Emb.addRow_inv hp' with ⟨rfl, rfl, rfl⟩ | hp'
        · exact ⟨rfl, rfl, rfl⟩
        · have := hr.ltr _ _ _ hp'; simp only at he; omega
        · have := hr.ltr _ _ _ hp; simp only at he; omega
        · exact hr.inj c k p c' k' p' hp hp' hb he
      · intro c k p c' b hp hb
        rcases Emb.addRow_inv hp with ⟨rfl, rfl, rfl⟩ | hp
        · have := hr.lto c' b hb; simp only; omega
        · exact hr.injr c k p c' b hp hb
      · intro c k p hp
        rw [hh]
        rcases Emb.addRow_inv hp with ⟨rfl, rfl, rfl⟩ | hp
        · simp
        · have := hr.ltr c k p hp; simp; omega
      · intro c b hb
        rw [hh]; have := hr.lto c b hb; simp; omega
      · intro c cs' ver fl ro k p hc hp
        rcases Emb.addRow_inv hp with ⟨_, rfl, _⟩ | hp
        · omega
        · obtain ⟨o, ho, _⟩ := hr.rowc c k p hp
          have hlt := (List.getElem?_eq_some_iff.1 ho).1
          rw [List.getElem?_append_left hlt] at hc
          exact hr.vers c cs' ver fl ro k p hc hp
    · intro c k p hp
      rcases Emb.addRow_inv hp with ⟨rfl, rfl, rfl⟩ | hp
      · exact .inr ⟨.inl (Nat.le_refl _), .inl (Nat.le_refl _)⟩
      · exact .inl hp
    · intro c hc _
      rw [List.getElem?_append_left hc]
  · cases hn

end Go.Proofs.YtmlmfjjfciiblaaGreatDoor.Ab
