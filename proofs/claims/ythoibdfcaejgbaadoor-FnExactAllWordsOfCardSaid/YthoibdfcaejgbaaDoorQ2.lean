/- Part 3 of the proof of a law of the given program: the rules that it leans on, and what the functions that it reaches answer; the conditions stand with each theorem. -/
import Derived.Laws.IdiomCopy
import Derived.WalkKit
import Derived.Deep.RegionLaw
import Derived.Lib.SliceRun
import Derived.Shelf.Strings.Builder1
import Derived.Shelf.Strings.Builder2
import Derived.Shelf.Strings.Trim
import Derived.Shelf.Small.Utf8
import Derived.Shelf.Small.Strs
import Derived.Shelf.Strings.BuilderF
import Derived.Shelf.Utf8.RuneCount
import Derived.Shelf.Strings.Search1
import Derived.Shelf.Strings.Search2
import Derived.Shelf.Strings.Search3
import Derived.Shelf.Strings.Count
import Derived.Shelf.LaysM
import Derived.Shelf.Strings.Shaped
import Derived.Shelf.Strings.Prefix
import Derived.Shelf.Strings.Split
import Derived.Shelf.Unicode.Decode
import Derived.Shelf.Strings.Runes
import Derived.Shelf.Strings.RuneCount
import Derived.Shelf.Strings.AsciiSet
import Derived.Shelf.Bits.Mul64
import Derived.Shelf.Strings.Repeat
import Derived.Shelf.Unicode.DecodeSlow
import Derived.Shelf.Unicode.DecodeAny
import Derived.Shelf.Unicode.DecodeLast
import Derived.Test.YthoibdfcaejgbaaDoorProg
import Derived.Shelf.Strings.SlTrimAscii
import Derived.ChangeSame
import Derived.Below
import Derived.WideKeyArgs
import Derived.Carry
import Derived.Deep.Slices
import Derived.Deep.Fields
import Derived.Lib.SmallJoins
import Derived.Test.YthoibdfcaejgbaaDoorQ1
set_option linter.unusedSimpArgs false
set_option linter.unusedVariables false
/- FOR CONTRACTS outside the table: calls that turn nothing old. -/
namespace Go.Proofs.YthoibdfcaejgbaaDoor.Ab
open Go Go.RowKit

theorem StepR.grown {F : Nat → Nat} {base : Nat} {m : Emb} {h : AH} {w w' : World} (hr : RelH F base m h w) (hold : ∀ b : Nat, b < w.heap.size → w'.heap[b]? = w.heap[b]?) (hsz : w.heap.size ≤ w'.heap.size) (ho : w'.os = w.os) (ht : w'.tape = w.tape) (hu : w'.output = w.output) : StepR F base m h w m h w' := by
  refine ⟨Emb.le_refl m, ⟨hr.rowc, hr.objc, ?_, hr.inj, hr.injo, hr.injr, ?_, ?_, hr.vers, Nat.le_trans hr.le hsz⟩, ho, ht, hu, hsz, fun b hb _ => hold b hb, fun _ _ _ h => .inl h, fun _ _ h => .inl h, fun _ _ _ => rfl, Nat.le_refl _⟩
  · intro c ob hc
    exact ObjRel.keep (hr.ob c ob hc) (Emb.le_refl m) (fun _ _ h => h) (fun _ h => h) (fun k p hp => hold _ (hr.ltr c k p hp)) (fun b hb => hold _ (hr.lto c b hb))
  · intro c k p hp; exact Nat.lt_of_lt_of_le (hr.ltr c k p hp) hsz
  · intro c b hb; exact Nat.lt_of_lt_of_le (hr.lto c b hb) hsz
theorem StepR.below' {F : Nat → Nat} {base : Nat} {m : Emb} {h : AH} {w w' : World} (hr : RelH F base m h w) (hb : Below w.heap.size w w') : StepR F base m h w m h w' :=
  StepR.grown hr hb.block hb.size hb.os hb.tape hb.output

/-- A contract of one function. -/
def ExtAt (P : Program) (F : Nat → Nat) (f : Nat) (G : List AV → Option AV) : Prop :=
  ∀ xs r, G xs = some r → fnOk P (F f) = true ∧ ∀ (m : Emb) (w : World) (args : Array Value), RelL F m xs args.toList →
    Calls P (F f) args w fun e w' => ∃ v, e = .returned v ∧ RelV F m r v ∧ Below w.heap.size w w'
/-- .. that reads the heap. -/
def ExtAtH (P : Program) (F : Nat → Nat) (f : Nat) (G : List AV → AH → Option AV) : Prop :=
  ∀ xs h r, G xs h = some r → fnOk P (F f) = true ∧ ∀ (base : Nat) (m : Emb) (w : World) (args : Array Value), RelH F base m h w → RelL F m xs args.toList →
    Calls P (F f) args w fun e w' => ∃ v, e = .returned v ∧ RelV F m r v ∧ Below w.heap.size w w'
theorem ExtAt.h {P : Program} {F : Nat → Nat} {f : Nat} {G : List AV → Option AV} (hG : ExtAt P F f G) : ExtAtH P F f fun xs _ => G xs := fun xs _ r hr => by
  obtain ⟨h1, h2⟩ := hG xs r hr
  exact ⟨h1, fun _ m w args _ hx => h2 m w args hx⟩
theorem ext_pure {P : Program} {F : Nat → Nat} {f : Nat} {G : List AV → AH → Option AV} (hG : ExtAtH P F f G) (cf : CF) (xs : List AV) (h : AH) (r : AV) (h' : AH) (hev : pureX G cf xs h = some (r, h')) : fnOk P (F f) = true ∧ ∀ base m w args, RelH F base m h w → RelL F m xs args.toList →
    Calls P (F f) args w fun e w' => ∃ v m', e = .returned v ∧ RelV F m' r v ∧ StepR F base m h w m' h' w' := by
  simp only [pureX, Option.map_eq_some_iff, Prod.mk.injEq] at hev
  obtain ⟨r', hr', rfl, rfl⟩ := hev
  obtain ⟨h1, h2⟩ := hG xs h r' hr'
  refine ⟨h1, fun base m w args hr hx => (h2 base m w args hr hx).mono ?_⟩
  rintro e w' ⟨v, rfl, hv, hb⟩
  exact ⟨v, m, rfl, hv, StepR.below' hr hb⟩
/-- .. that turns the heap. -/
def ExtAtW (P : Program) (F : Nat → Nat) (f : Nat) (G : List AV → AH → Option (AV × AH)) : Prop :=
  ∀ xs h r h', G xs h = some (r, h') → fnOk P (F f) = true ∧ ∀ (base : Nat) (m : Emb) (w : World) (args : Array Value), RelH F base m h w → RelL F m xs args.toList →
    Calls P (F f) args w fun e w' => ∃ v m', e = .returned v ∧ RelV F m' r v ∧ StepR F base m h w m' h' w'
theorem ext_ok {P : Program} {F : Nat → Nat} (h : ∀ x ∈ xtab, ExtAtH P F x.1 x.2) (h2 : ∀ x ∈ ytab, ExtAtW P F x.1 x.2) : ExtOk P F E := by
  intro f G hf cf _ xs hh r h' hev
  unfold E at hf
  split at hf
  · rename_i x hx
    cases hf
    have h1 := List.find?_some hx
    have h3 : x.1 = f := by simpa using h1
    have := ext_pure (h x (List.mem_of_find?_eq_some hx)) cf xs hh r h' hev
    rwa [h3] at this
  · simp only [Option.map_eq_some_iff] at hf
    obtain ⟨x, hx, rfl⟩ := hf
    have h1 := List.find?_some hx
    have h3 : x.1 = f := by simpa using h1
    have := h2 x (List.mem_of_find?_eq_some hx) xs hh r h' hev
    rwa [h3] at this

/-! ### Writes, by the model's own words -/
theorem wr_cells {F : Nat → Nat} {base : Nat} {m : Emb} {h : AH} {w : World} (hr : RelH F base m h w) {c k off : Nat} {xs : List AV} {h' : AH} (hw : wrRow h c k off xs = some h') {p : Place} (hp : m.row c k = some p) (hlo : p.lo ≤ off) (hext : off + xs.length ≤ p.ext) :
    ∀ j, j < xs.length → (w.cell? ⟨p.blk, p.base + (off - p.lo) + j, none⟩).isSome = true ∧ w.frozen? ⟨p.blk, p.base + (off - p.lo) + j, none⟩ = false := by
  unfold wrRow at hw
  split at hw
  · rename_i cs ver fl hc
    split at hw
    · rename_i hcond
      obtain ⟨rfl, hfl, hl, hsc⟩ := hcond
      obtain ⟨_, h2, h3, h4, C, e, fr, hg, hs, hb, hf, hcell⟩ := hr.ob c _ hc k p hp hfl
      intro j hj
      have hlt : p.base + (off - p.lo) + j < C.size := by omega
      have hf' := hf rfl
      constructor
      · simp only [World.cell?, hg, Option.isSome_none, Bool.false_eq_true, if_false]
        rw [Array.getElem?_eq_getElem hlt]; rfl
      · simp only [World.frozen?, hg]
        rcases hf' with h | h
        · simp; omega
        · simp; omega
    · cases hw
  · cases hw
theorem wr_set {P : Program} {F : Nat → Nat} {base : Nat} {m : Emb} {h : AH} {w : World} (hr : RelH F base m h w) {c k off : Nat} {xs : List AV} {h' : AH} (hw : wrRow h c k off xs = some h') {p : Place} (hp : m.row c k = some p) (hlo : p.lo ≤ off) (hext : off + xs.length ≤ p.ext) {vs : List Value} (hvs : RelL F m xs vs) (hone : ∀ v ∈ vs, v.oneCell' = true) :
    StepR F base m h w m h' (w.setCells p.blk (p.base + (off - p.lo)) vs) := by
  obtain ⟨w', h1, h2⟩ := wr_step (P := P) hr hw hp hlo hext hvs
  have hl := hvs.length
  have hc := wr_cells hr hw hp hlo hext
  have h3 := run_storeCells_cells (P := P) p.blk (p.base + (off - p.lo)) vs 0 w (fun j hj => by simpa using (hc j (by omega)).1) (fun j hj => by simpa using (hc j (by omega)).2) hone
  rw [h1] at h3
  cases h3
  exact h2
/-- 'clear(s)' at elements of three numbers. -/
theorem run_clear3 {P : Program} (w : World) (t e ty : TypeId) (z : Value) (ht : P.underlying t = some (.slice e)) (hv : ∀ w, (zeroValue e).run P w = .ok z w) (hz : z.cells = #[.int .i64 0, .int .i64 0, .int .i64 0]) (b o n c : Nat) (hn : 0 < n)
    (hc : ∀ j, j < n * 3 → (w.cell? ⟨b, o + j, none⟩).isSome = true) (hf : ∀ j, j < n * 3 → w.frozen? ⟨b, o + j, none⟩ = false) :
    (Builtin.clear_ #[t] ty #[.slice (some ⟨b, o, none⟩) n c]).run P w = .ok (.tuple #[]) (w.setCells b o (List.replicate (n * 3) (.int .i64 0))) := by
  have hzc : (Builtin.zeroCells z.cells n).toList = List.replicate (n * 3) (.int .i64 0) := by
    rw [hz]
    simp only [Builtin.zeroCells]
    apply List.ext_getElem
    · simp
    · intro i h1 h2
      have : i % 3 = 0 ∨ i % 3 = 1 ∨ i % 3 = 2 := by omega
      rcases this with h | h | h <;> simp [h]
  have hst := run_storeCells_cells (P := P) b o (List.replicate (n * 3) (.int .i64 0)) 0 w (by simpa using hc) (by simpa using hf) (by intro v hv'; rw [List.eq_of_mem_replicate hv']; rfl)
  simp only [Nat.add_zero] at hst
  obtain ⟨m, rfl⟩ : ∃ m, n = m + 1 := ⟨n - 1, by omega⟩
  simp [Builtin.clear_, run_underlying ht, hv, hzc, hst]
end Go.Proofs.YthoibdfcaejgbaaDoor.Ab

/- THE SEAT's contract of slices.Delete at clues, by a walk over the library's own text. -/
namespace Go.Proofs.YthoibdfcaejgbaaDoor.Ab
open Go Go.RowKit Go.Lib

theorem rel_three {m : Emb} {args : Array Value} {x y z : AV} (h : RelL F m [x, y, z] args.toList) : ∃ u v t, args = #[u, v, t] ∧ RelV F m x u ∧ RelV F m y v ∧ RelV F m z t := by
  simp only [RelL] at h
  obtain ⟨u, l, e1, h1, v, l2, rfl, h2, t, l3, rfl, h3, rfl⟩ := h
  exact ⟨u, v, t, by rw [← Array.toArray_toList (xs := args), e1], h1, h2, h3⟩
end Go.Proofs.YthoibdfcaejgbaaDoor.Ab

/-
  DERIVED: THE SHELF's CONTRACTS AT THIS DUMP, IN PLAIN WORDS (tools/lay-plain.mjs out of 'TrydShelf.lean', which tools/lay-shelf.mjs wrote): THE SAME DECLARATIONS UNDER THE SAME NAMES: 'import', 'namespace', 'open', 'def', 'theorem' AND NOTHING ELSE: no command of the shelf's: FOR A HAND-IN. Each laying: the table of numbers ('.._ren') and one theorem, a field a fact of the dump's own or the kernel's comparison; each contract: ONE APPLICATION.
-/
namespace Go.Proofs
open Go.Shelf
def Tryd.lays170_ren : Go.Shelf.Ren := ⟨fun | 170 => 65 | n => n, fun | 70 => 84 | 3 => 3 | 0 => 0 | 72 => 86 | 37 => 66 | 5 => 5 | n => n, fun | n => n⟩
theorem Tryd.lays170 : Go.Proofs.Lays.n170 Tryd.prog Tryd.lays170_ren := {
  mixed := by kernel_rfl
  f170 := Tryd.func65.trans (congrArg some (by kernel_rfl))
  t0 := Tryd.underlying0
  a0 := Tryd.isAgg0
  z0 := Tryd.sizeOf0
  v0 := Tryd.zeroValue0
  t3 := Tryd.underlying3
  a3 := Tryd.isAgg3
  z3 := Tryd.sizeOf3
  v3 := Tryd.zeroValue3
  t37 := Tryd.underlying66
  a37 := Tryd.isAgg66
  z37 := Tryd.sizeOf66
  v37 := Tryd.zeroValue66
  t70 := Tryd.underlying84
  a70 := Tryd.isAgg84
  z70 := Tryd.sizeOf84
  v70 := Tryd.zeroValue84
  t72 := Tryd.underlying86
  a72 := Tryd.isAgg86
  z72 := Tryd.sizeOf86
  v72 := Tryd.zeroValue86 }
open Go.RowKit in
/-- (*strings.Builder).Len: "Len returns the number of accumulated bytes; b.Len() == len(b.String()).": the world is as it was. (LAID: no walk: one application.) -/
theorem Tryd.Builder_Len (B b : Nat) (bs : List Value) (w : World) (h : Lib.IsBuilder 86 5 B b bs w) :
    Calls Tryd.prog 65 #[.pointer (some ⟨b, 0, none⟩)] w fun e w' => e = .returned (.int .i64 bs.length) ∧ w' = w := Any.Builder_Len Tryd.lays170 B b bs w h
def Tryd.lays169_ren : Go.Shelf.Ren := ⟨fun | 169 => 66 | n => n, fun | 70 => 84 | 9 => 9 | 0 => 0 | 72 => 86 | 37 => 66 | 127 => 107 | 3 => 3 | 5 => 5 | n => n, fun | n => n⟩
theorem Tryd.lays169 : Go.Proofs.Lays.n169 Tryd.prog Tryd.lays169_ren := {
  mixed := by kernel_rfl
  f169 := Tryd.func66.trans (congrArg some (by kernel_rfl))
  t0 := Tryd.underlying0
  a0 := Tryd.isAgg0
  z0 := Tryd.sizeOf0
  v0 := Tryd.zeroValue0
  t3 := Tryd.underlying3
  a3 := Tryd.isAgg3
  z3 := Tryd.sizeOf3
  v3 := Tryd.zeroValue3
  t9 := Tryd.underlying9
  a9 := Tryd.isAgg9
  z9 := Tryd.sizeOf9
  v9 := Tryd.zeroValue9
  t37 := Tryd.underlying66
  a37 := Tryd.isAgg66
  z37 := Tryd.sizeOf66
  v37 := Tryd.zeroValue66
  t70 := Tryd.underlying84
  a70 := Tryd.isAgg84
  z70 := Tryd.sizeOf84
  v70 := Tryd.zeroValue84
  t72 := Tryd.underlying86
  a72 := Tryd.isAgg86
  z72 := Tryd.sizeOf86
  v72 := Tryd.zeroValue86
  t127 := Tryd.underlying107
  a127 := Tryd.isAgg107
  z127 := Tryd.sizeOf107
  v127 := Tryd.zeroValue107 }
theorem Tryd.Builder_Extra_169 : Builder.Extra Tryd.prog Tryd.lays169_ren := {
  sizeBuilder := by kernel_rfl
  liesBuilder := by kernel_rfl
  t5 := Tryd.underlying5
  a5 := Tryd.isAgg5
  z5 := Tryd.sizeOf5
  v5 := Tryd.zeroValue5
  infoByte := by kernel_rfl
  cellsByte := by kernel_rfl
  sizeByte := by kernel_rfl
  neB5 := by decide }
open Go.RowKit in
/-- (*strings.Builder).String: "String returns the accumulated string.": OF A BUILDER THAT HOLDS AT LEAST ONE BYTE. ✋ THE MODEL FREEZES THOSE BYTES IN THE BUFFER (unsafe.String): a later write INTO them ends the model's run without an answer; a later append BEHIND them goes on. The statement's order of evaluation is drawn: one draw. (LAID: no walk: one application.) -/
theorem Tryd.Builder_String (B b : Nat) (l : List UInt8) (w : World) (h : Lib.IsBuilder 86 5 B b (Lib.byteCells l) w) (h0 : l ≠ []) :
    Calls Tryd.prog 66 #[.pointer (some ⟨b, 0, none⟩)] w fun e w' => e = .returned (.string ⟨l.toArray⟩) ∧ Below B w w' := Any.Builder_String Tryd.lays169 Tryd.Builder_Extra_169 B b l w h h0
open Go.RowKit in
/-- (*strings.Builder).String OF A BUILDER THAT HOLDS NO BYTE: the empty string. (Its buffer is nil, or a row of which it has taken nothing yet; where that row has NO capacity the model lays one new block for unsafe.SliceData's 'some address'.) One draw. (LAID: no walk: one application.) -/
theorem Tryd.Builder_String_empty (B b : Nat) (w : World) (h : Lib.IsBuilder 86 5 B b [] w) (hBw : B ≤ w.heap.size) :
    Calls Tryd.prog 66 #[.pointer (some ⟨b, 0, none⟩)] w fun e w' => e = .returned (.string ⟨#[]⟩) ∧ Below B w w' := Any.Builder_String_empty Tryd.lays169 Tryd.Builder_Extra_169 B b w h hBw
open Go.RowKit in
/-- (*strings.Builder).String: "String returns the accumulated string.": WHATEVER THE BUILDER HOLDS. (LAID: no walk: one application.) -/
theorem Tryd.Builder_String_any (B b : Nat) (l : List UInt8) (w : World) (h : Lib.IsBuilder 86 5 B b (Lib.byteCells l) w) (hBw : B ≤ w.heap.size) :
    Calls Tryd.prog 66 #[.pointer (some ⟨b, 0, none⟩)] w fun e w' => e = .returned (.string ⟨l.toArray⟩) ∧ Below B w w' := Any.Builder_String_any Tryd.lays169 Tryd.Builder_Extra_169 B b l w h hBw
def Tryd.lays241_ren : Go.Shelf.Ren := ⟨fun | 241 => 83 | 277 => 94 | n => n, fun | 70 => 84 | 3 => 3 | 0 => 0 | 72 => 86 | 37 => 66 | 5 => 5 | n => n, fun | n => n⟩
theorem Tryd.lays241 : Go.Proofs.Lays.n241 Tryd.prog Tryd.lays241_ren := {
  mixed := by kernel_rfl
  f241 := Tryd.func83.trans (congrArg some (by kernel_rfl))
  f277 := Tryd.func94.trans (congrArg some (by kernel_rfl))
  t0 := Tryd.underlying0
  a0 := Tryd.isAgg0
  z0 := Tryd.sizeOf0
  v0 := Tryd.zeroValue0
  t3 := Tryd.underlying3
  a3 := Tryd.isAgg3
  z3 := Tryd.sizeOf3
  v3 := Tryd.zeroValue3
  t37 := Tryd.underlying66
  a37 := Tryd.isAgg66
  z37 := Tryd.sizeOf66
  v37 := Tryd.zeroValue66
  t70 := Tryd.underlying84
  a70 := Tryd.isAgg84
  z70 := Tryd.sizeOf84
  v70 := Tryd.zeroValue84
  t72 := Tryd.underlying86
  a72 := Tryd.isAgg86
  z72 := Tryd.sizeOf86
  v72 := Tryd.zeroValue86 }
theorem Tryd.Builder_Extra_241 : Builder.Extra Tryd.prog Tryd.lays241_ren := {
  sizeBuilder := by kernel_rfl
  liesBuilder := by kernel_rfl
  t5 := Tryd.underlying5
  a5 := Tryd.isAgg5
  z5 := Tryd.sizeOf5
  v5 := Tryd.zeroValue5
  infoByte := by kernel_rfl
  cellsByte := by kernel_rfl
  sizeByte := by kernel_rfl
  neB5 := by decide }
open Go.RowKit in
/-- (*strings.Builder).grow (no doc but "grow copies the buffer to a new, larger buffer so that there are at least n bytes of capacity beyond len(b.buf)."): AT A BUILDER WITHOUT A BUFFER: a new row of whatever bytes for its buffer, none of them its own yet. Three draws. (LAID: no walk: one application.) -/
theorem Tryd.Builder_grow_fresh (B b n : Nat) (w : World) (hB : B ≤ b) (hbk : w.heap[b]? = some (.cells #[.pointer (some ⟨b, 0, none⟩), .slice none 0 0] 86 (0, 0))) (hBw : B ≤ w.heap.size) (hn : n ≤ 281474976710656) :
    Calls Tryd.prog 83 #[.pointer (some ⟨b, 0, none⟩), .int .i64 n] w fun e w' => e = .returned (.tuple #[]) ∧ (Lib.BuilderAt 86 5 B b (.pointer (some ⟨b, 0, none⟩)) [] w' ∧ Below B w w') := Any.Builder_grow_fresh Tryd.lays241 Tryd.Builder_Extra_241 B b n w hB hbk hBw hn
def Tryd.lays165_ren : Go.Shelf.Ren := ⟨fun | 165 => 63 | 240 => 82 | 241 => 83 | 276 => 93 | 277 => 94 | n => n, fun | 70 => 84 | 3 => 3 | 0 => 0 | 4 => 4 | 9 => 9 | 20 => 20 | 72 => 86 | 37 => 66 | 164 => 115 | 5 => 5 | n => n, fun | n => n⟩
theorem Tryd.lays165 : Go.Proofs.Lays.n165 Tryd.prog Tryd.lays165_ren := {
  mixed := by kernel_rfl
  f165 := Tryd.func63.trans (congrArg some (by kernel_rfl))
  f240 := Tryd.func82.trans (congrArg some (by kernel_rfl))
  f241 := Tryd.func83.trans (congrArg some (by kernel_rfl))
  f276 := Tryd.func93.trans (congrArg some (by kernel_rfl))
  f277 := Tryd.func94.trans (congrArg some (by kernel_rfl))
  t0 := Tryd.underlying0
  a0 := Tryd.isAgg0
  z0 := Tryd.sizeOf0
  v0 := Tryd.zeroValue0
  t3 := Tryd.underlying3
  a3 := Tryd.isAgg3
  z3 := Tryd.sizeOf3
  v3 := Tryd.zeroValue3
  t4 := Tryd.underlying4
  a4 := Tryd.isAgg4
  z4 := Tryd.sizeOf4
  v4 := Tryd.zeroValue4
  t9 := Tryd.underlying9
  a9 := Tryd.isAgg9
  z9 := Tryd.sizeOf9
  v9 := Tryd.zeroValue9
  t20 := Tryd.underlying20
  a20 := Tryd.isAgg20
  z20 := Tryd.sizeOf20
  v20 := Tryd.zeroValue20
  t37 := Tryd.underlying66
  a37 := Tryd.isAgg66
  z37 := Tryd.sizeOf66
  v37 := Tryd.zeroValue66
  t70 := Tryd.underlying84
  a70 := Tryd.isAgg84
  z70 := Tryd.sizeOf84
  v70 := Tryd.zeroValue84
  t72 := Tryd.underlying86
  a72 := Tryd.isAgg86
  z72 := Tryd.sizeOf86
  v72 := Tryd.zeroValue86
  t164 := Tryd.underlying115
  a164 := Tryd.isAgg115
  z164 := Tryd.sizeOf115
  v164 := Tryd.zeroValue115 }
theorem Tryd.Builder_Extra_165 : Builder.Extra Tryd.prog Tryd.lays165_ren := {
  sizeBuilder := by kernel_rfl
  liesBuilder := by kernel_rfl
  t5 := Tryd.underlying5
  a5 := Tryd.isAgg5
  z5 := Tryd.sizeOf5
  v5 := Tryd.zeroValue5
  infoByte := by kernel_rfl
  cellsByte := by kernel_rfl
  sizeByte := by kernel_rfl
  neB5 := by decide }
open Go.RowKit in
/-- (*strings.Builder).Grow AT A BUILDER THAT HAS NOT BEEN WRITTEN ('var b strings.Builder; b.Grow(n)'): "Grow grows b's capacity, if necessary, to guarantee space for another n bytes.": it holds no byte behind it as before it. (LAID: no walk: one application.) -/
theorem Tryd.Builder_Grow_fresh (B b n : Nat) (w : World) (hB : B ≤ b) (hbk : w.heap[b]? = some (.cells #[.pointer none, .slice none 0 0] 86 (0, 0))) (hBw : B ≤ w.heap.size) (hn : n ≤ 281474976710656) :
    Calls Tryd.prog 63 #[.pointer (some ⟨b, 0, none⟩), .int .i64 n] w fun e w' => e = .returned (.tuple #[]) ∧ (Lib.BuilderAt 86 5 B b (.pointer (some ⟨b, 0, none⟩)) [] w' ∧ Below B w w') := Any.Builder_Grow_fresh Tryd.lays165 Tryd.Builder_Extra_165 B b n w hB hbk hBw hn
def Tryd.lays231_ren : Go.Shelf.Ren := ⟨fun | 231 => 85 | n => n, fun | 9 => 9 | 5 => 5 | 3 => 3 | 4 => 4 | n => n, fun | n => n⟩
theorem Tryd.lays231 : Go.Proofs.Lays.n231 Tryd.prog Tryd.lays231_ren := {
  mixed := by kernel_rfl
  f231 := Tryd.func85.trans (congrArg some (by kernel_rfl))
  t3 := Tryd.underlying3
  a3 := Tryd.isAgg3
  z3 := Tryd.sizeOf3
  v3 := Tryd.zeroValue3
  t4 := Tryd.underlying4
  a4 := Tryd.isAgg4
  z4 := Tryd.sizeOf4
  v4 := Tryd.zeroValue4
  t5 := Tryd.underlying5
  a5 := Tryd.isAgg5
  z5 := Tryd.sizeOf5
  v5 := Tryd.zeroValue5
  t9 := Tryd.underlying9
  a9 := Tryd.isAgg9
  z9 := Tryd.sizeOf9
  v9 := Tryd.zeroValue9 }
open Go.RowKit in
/-- strings.trimLeftByte (no doc; what TrimLeft and Trim call at a cutset of one ASCII byte): the leading bytes that are c are cut off. The world is as it was. (LAID: no walk: one application.) -/
theorem Tryd.strings_trimLeftByte (s : ByteArray) (c : UInt8) (w : World) :
    Calls Tryd.prog 85 #[.string s, .int .u8 c.toNat] w fun e w' => e = .returned (.string ⟨(Lib.trimLeftB s.data.toList c).toArray⟩) ∧ w' = w := Any.strings_trimLeftByte Tryd.lays231 s c w
def Tryd.lays232_ren : Go.Shelf.Ren := ⟨fun | 232 => 86 | n => n, fun | 9 => 9 | 5 => 5 | 3 => 3 | 4 => 4 | n => n, fun | n => n⟩
theorem Tryd.lays232 : Go.Proofs.Lays.n232 Tryd.prog Tryd.lays232_ren := {
  mixed := by kernel_rfl
  f232 := Tryd.func86.trans (congrArg some (by kernel_rfl))
  t3 := Tryd.underlying3
  a3 := Tryd.isAgg3
  z3 := Tryd.sizeOf3
  v3 := Tryd.zeroValue3
  t4 := Tryd.underlying4
  a4 := Tryd.isAgg4
  z4 := Tryd.sizeOf4
  v4 := Tryd.zeroValue4
  t5 := Tryd.underlying5
  a5 := Tryd.isAgg5
  z5 := Tryd.sizeOf5
  v5 := Tryd.zeroValue5
  t9 := Tryd.underlying9
  a9 := Tryd.isAgg9
  z9 := Tryd.sizeOf9
  v9 := Tryd.zeroValue9 }
open Go.RowKit in
/-- strings.trimRightByte (no doc; what TrimRight and Trim call at a cutset of one ASCII byte): the trailing bytes that are c are cut off. The world is as it was. ('hs': a string's length is a number that an int holds.) (LAID: no walk: one application.) -/
theorem Tryd.strings_trimRightByte (s : ByteArray) (c : UInt8) (w : World) (hs : s.size ≤ 9223372036854775807) :
    Calls Tryd.prog 86 #[.string s, .int .u8 c.toNat] w fun e w' => e = .returned (.string ⟨(Lib.trimRightB s.data.toList c).toArray⟩) ∧ w' = w := Any.strings_trimRightByte Tryd.lays232 s c w hs
def Tryd.lays160_ren : Go.Shelf.Ren := ⟨fun | 160 => 70 | 232 => 86 | 231 => 85 | 227 => 87 | 234 => 89 | 233 => 88 | 236 => 91 | 235 => 90 | 228 => 95 | 271 => 98 | 151 => 97 | 197 => 96 | 120 => 105 | 152 => 104 | 260 => 103 | 137 => 108 | 119 => 109 | 224 => 101 | 225 => 100 | 217 => 99 | 266 => 106 | n => n, fun | 9 => 9 | 4 => 4 | 3 => 3 | 5 => 5 | 117 => 111 | 116 => 110 | 0 => 0 | 124 => 114 | 21 => 21 | 105 => 119 | 46 => 81 | 119 => 125 | 139 => 128 | 138 => 127 | n => n, fun | 3 => 1 | 4 => 2 | n => n⟩
theorem Tryd.lays160 : Go.Proofs.Lays.n160 Tryd.prog Tryd.lays160_ren := {
  mixed := by kernel_rfl
  f119 := Tryd.func109.trans (congrArg some (by kernel_rfl))
  f120 := Tryd.func105.trans (congrArg some (by kernel_rfl))
  f137 := Tryd.func108.trans (congrArg some (by kernel_rfl))
  f151 := Tryd.func97.trans (congrArg some (by kernel_rfl))
  f152 := Tryd.func104.trans (congrArg some (by kernel_rfl))
  f160 := Tryd.func70.trans (congrArg some (by kernel_rfl))
  f197 := Tryd.func96.trans (congrArg some (by kernel_rfl))
  f217 := Tryd.func99.trans (congrArg some (by kernel_rfl))
  f224 := Tryd.func101.trans (congrArg some (by kernel_rfl))
  f225 := Tryd.func100.trans (congrArg some (by kernel_rfl))
  f227 := Tryd.func87.trans (congrArg some (by kernel_rfl))
  f228 := Tryd.func95.trans (congrArg some (by kernel_rfl))
  f231 := Tryd.func85.trans (congrArg some (by kernel_rfl))
  f232 := Tryd.func86.trans (congrArg some (by kernel_rfl))
  f233 := Tryd.func88.trans (congrArg some (by kernel_rfl))
  f234 := Tryd.func89.trans (congrArg some (by kernel_rfl))
  f235 := Tryd.func90.trans (congrArg some (by kernel_rfl))
  f236 := Tryd.func91.trans (congrArg some (by kernel_rfl))
  f260 := Tryd.func103.trans (congrArg some (by kernel_rfl))
  f266 := Tryd.func106.trans (congrArg some (by kernel_rfl))
  f271 := Tryd.func98.trans (congrArg some (by kernel_rfl))
  t0 := Tryd.underlying0
  a0 := Tryd.isAgg0
  z0 := Tryd.sizeOf0
  v0 := Tryd.zeroValue0
  t3 := Tryd.underlying3
  a3 := Tryd.isAgg3
  z3 := Tryd.sizeOf3
  v3 := Tryd.zeroValue3
  t4 := Tryd.underlying4
  a4 := Tryd.isAgg4
  z4 := Tryd.sizeOf4
  v4 := Tryd.zeroValue4
  t5 := Tryd.underlying5
  a5 := Tryd.isAgg5
  z5 := Tryd.sizeOf5
  v5 := Tryd.zeroValue5
  t9 := Tryd.underlying9
  a9 := Tryd.isAgg9
  z9 := Tryd.sizeOf9
  v9 := Tryd.zeroValue9
  t21 := Tryd.underlying21
  a21 := Tryd.isAgg21
  z21 := Tryd.sizeOf21
  v21 := Tryd.zeroValue21
  t46 := Tryd.underlying81
  a46 := Tryd.isAgg81
  z46 := Tryd.sizeOf81
  v46 := Tryd.zeroValue81
  t105 := Tryd.underlying119
  a105 := Tryd.isAgg119
  z105 := Tryd.sizeOf119
  v105 := Tryd.zeroValue119
  t116 := Tryd.underlying110
  a116 := Tryd.isAgg110
  z116 := Tryd.sizeOf110
  t117 := Tryd.underlying111
  a117 := Tryd.isAgg111
  z117 := Tryd.sizeOf111
  v117 := Tryd.zeroValue111
  t119 := Tryd.underlying125
  a119 := Tryd.isAgg125
  z119 := Tryd.sizeOf125
  t124 := Tryd.underlying114
  a124 := Tryd.isAgg114
  z124 := Tryd.sizeOf114
  v124 := Tryd.zeroValue114
  t138 := Tryd.underlying127
  a138 := Tryd.isAgg127
  z138 := Tryd.sizeOf127
  v138 := Tryd.zeroValue127
  t139 := Tryd.underlying128
  a139 := Tryd.isAgg128
  z139 := Tryd.sizeOf128
  v139 := Tryd.zeroValue128
  g3 := by kernel_rfl
  g4 := by kernel_rfl }
open Go.RowKit in
/-- strings.Trim: "Trim returns a slice of the string s with all leading and trailing Unicode code points contained in cutset removed.": AT A cutset OF ONE ASCII BYTE. THE WORLD BEHIND IT: as it was, or (where s is not empty) with ONE DRAW MORE off the tape: the statement 'return trimLeftByte(trimRightByte(s, c), c)' draws its order of evaluation. (LAID: no walk: one application.) -/
theorem Tryd.strings_Trim_one (s : ByteArray) (c : UInt8) (hc : c.toNat < 128) (w : World) (hs : s.size ≤ 9223372036854775807) :
    Calls Tryd.prog 70 #[.string s, .string ⟨#[c]⟩] w fun e w' => e = .returned (.string ⟨(Lib.trimB s.data.toList c).toArray⟩) ∧ (w' = w ∨ w' = w.drew) := Any.strings_Trim_one Tryd.lays160 s c hc w hs
def Tryd.lays119_ren : Go.Shelf.Ren := ⟨fun | 119 => 109 | n => n, fun | 21 => 21 | 4 => 4 | n => n, fun | n => n⟩
theorem Tryd.lays119 : Go.Proofs.Lays.n119 Tryd.prog Tryd.lays119_ren := {
  mixed := by kernel_rfl
  f119 := Tryd.func109.trans (congrArg some (by kernel_rfl))
  t4 := Tryd.underlying4
  a4 := Tryd.isAgg4
  z4 := Tryd.sizeOf4
  v4 := Tryd.zeroValue4
  t21 := Tryd.underlying21
  a21 := Tryd.isAgg21
  z21 := Tryd.sizeOf21
  v21 := Tryd.zeroValue21 }
/-- utf8.ValidRune: "ValidRune reports whether r can be legally encoded as UTF-8. Code points that are out of range or a surrogate half are illegal.": IT RETURNS 'Lib.validRune r'; the world is as it was. (LAID: no walk: one application.) -/
theorem Tryd.utf8_ValidRune (r : Int) (w : World) :
    Calls Tryd.prog 109 #[.int .i32 r] w fun e w' => e = .returned (.bool (Lib.validRune r)) ∧ w' = w := Any.utf8_ValidRune Tryd.lays119 r w
def Tryd.lays120_ren : Go.Shelf.Ren := ⟨fun | 120 => 105 | n => n, fun | 5 => 5 | 4 => 4 | n => n, fun | n => n⟩
theorem Tryd.lays120 : Go.Proofs.Lays.n120 Tryd.prog Tryd.lays120_ren := {
  mixed := by kernel_rfl
  f120 := Tryd.func105.trans (congrArg some (by kernel_rfl))
  t4 := Tryd.underlying4
  a4 := Tryd.isAgg4
  z4 := Tryd.sizeOf4
  v4 := Tryd.zeroValue4
  t5 := Tryd.underlying5
  a5 := Tryd.isAgg5
  z5 := Tryd.sizeOf5
  v5 := Tryd.zeroValue5 }
/-- utf8.RuneStart: "RuneStart reports whether the byte could be the first byte of an encoded, possibly invalid rune. Second and subsequent bytes always have the top two bits set to 10.": IT RETURNS 'Lib.runeStart b'; the world is as it was. ('h0', 'h1': b is a byte: a caller has it of every byte that it was handed.) (LAID: no walk: one application.) -/
theorem Tryd.utf8_RuneStart (b : Int) (w : World) (h0 : 0 ≤ b) (h1 : b < 256) :
    Calls Tryd.prog 105 #[.int .u8 b] w fun e w' => e = .returned (.bool (Lib.runeStart b)) ∧ w' = w := Any.utf8_RuneStart Tryd.lays120 b w h0 h1
def Tryd.lays137_ren : Go.Shelf.Ren := ⟨fun | 137 => 108 | 217 => 99 | 266 => 106 | n => n, fun | 9 => 9 | 5 => 5 | 3 => 3 | n => n, fun | n => n⟩
theorem Tryd.lays137 : Go.Proofs.Lays.n137 Tryd.prog Tryd.lays137_ren := {
  mixed := by kernel_rfl
  f137 := Tryd.func108.trans (congrArg some (by kernel_rfl))
  f217 := Tryd.func99.trans (congrArg some (by kernel_rfl))
  f266 := Tryd.func106.trans (congrArg some (by kernel_rfl))
  t3 := Tryd.underlying3
  a3 := Tryd.isAgg3
  z3 := Tryd.sizeOf3
  v3 := Tryd.zeroValue3
  t5 := Tryd.underlying5
  a5 := Tryd.isAgg5
  z5 := Tryd.sizeOf5
  v5 := Tryd.zeroValue5
  t9 := Tryd.underlying9
  a9 := Tryd.isAgg9
  z9 := Tryd.sizeOf9
  v9 := Tryd.zeroValue9 }
open Go.RowKit in
/-- strings.IndexByte: "IndexByte returns the index of the first instance of c in s, or -1 if c is not present in s.": IT RETURNS 'Lib.indexByte s c'; the world is as it was. (LAID: no walk: one application.) -/
theorem Tryd.strings_IndexByte (s : ByteArray) (c : Int) (w : World) :
    Calls Tryd.prog 108 #[.string s, .int .u8 c] w fun e w' => e = .returned (.int .i64 (Lib.indexByte s.data.toList c.toNat.toUInt8)) ∧ w' = w := Any.strings_IndexByte Tryd.lays137 s c w
open Go.RowKit in
/-- (*strings.Builder).Len: "Len returns the number of accumulated bytes; b.Len() == len(b.String()).": the world is as it was. (THE FORM '_f': 'Lib.IsBuilderF'.) (LAID: no walk: one application.) -/
theorem Tryd.Builder_Len_f (B b : Nat) (bs : List Value) (w : World) (h : Lib.IsBuilderF 86 5 B b bs w) :
    Calls Tryd.prog 65 #[.pointer (some ⟨b, 0, none⟩)] w fun e w' => e = .returned (.int .i64 bs.length) ∧ w' = w := Any.Builder_Len_f Tryd.lays170 B b bs w h
open Go.RowKit in
/-- (*strings.Builder).String: "String returns the accumulated string.": OF A BUILDER THAT HOLDS AT LEAST ONE BYTE. ✋ THE MODEL FREEZES THOSE BYTES IN THE BUFFER (unsafe.String): a later write INTO them ends the model's run without an answer; a later append BEHIND them goes on. The statement's order of evaluation is drawn: one draw. THE FORM '_f': IT SAYS BESIDES THAT THE BUILDER IS A BUILDER STILL ('Lib.IsBuilderF', the same bytes): SO IT CAN BE WRITTEN ON: 'b.WriteString(b.String()[:k])'. (LAID: no walk: one application.) -/
theorem Tryd.Builder_String_f (B b : Nat) (l : List UInt8) (w : World) (h : Lib.IsBuilderF 86 5 B b (Lib.byteCells l) w) (h0 : l ≠ []) :
    Calls Tryd.prog 66 #[.pointer (some ⟨b, 0, none⟩)] w fun e w' => e = .returned (.string ⟨l.toArray⟩) ∧ (Lib.IsBuilderF 86 5 B b (Lib.byteCells l) w' ∧ Below B w w') := Any.Builder_String_f Tryd.lays169 Tryd.Builder_Extra_169 B b l w h h0
open Go.RowKit in
/-- (*strings.Builder).String OF A BUILDER THAT HOLDS NO BYTE: the empty string; THE FORM '_f': a builder still. (LAID: no walk: one application.) -/
theorem Tryd.Builder_String_empty_f (B b : Nat) (w : World) (h : Lib.IsBuilderF 86 5 B b [] w) (hBw : B ≤ w.heap.size) :
    Calls Tryd.prog 66 #[.pointer (some ⟨b, 0, none⟩)] w fun e w' => e = .returned (.string ⟨#[]⟩) ∧ (Lib.IsBuilderF 86 5 B b [] w' ∧ Below B w w') := Any.Builder_String_empty_f Tryd.lays169 Tryd.Builder_Extra_169 B b w h hBw
open Go.RowKit in
/-- (*strings.Builder).String: "String returns the accumulated string.": WHATEVER THE BUILDER HOLDS; THE FORM '_f': OF A BUILDER THAT MAY HAVE BEEN READ BEFORE; AND IT IS A BUILDER STILL, holding the same bytes: it can be written on. (LAID: no walk: one application.) -/
theorem Tryd.Builder_String_any_f (B b : Nat) (l : List UInt8) (w : World) (h : Lib.IsBuilderF 86 5 B b (Lib.byteCells l) w) (hBw : B ≤ w.heap.size) :
    Calls Tryd.prog 66 #[.pointer (some ⟨b, 0, none⟩)] w fun e w' => e = .returned (.string ⟨l.toArray⟩) ∧ (Lib.IsBuilderF 86 5 B b (Lib.byteCells l) w' ∧ Below B w w') := Any.Builder_String_any_f Tryd.lays169 Tryd.Builder_Extra_169 B b l w h hBw
def Tryd.lays195_ren : Go.Shelf.Ren := ⟨fun | 195 => 73 | n => n, fun | 9 => 9 | 3 => 3 | 0 => 0 | 4 => 4 | n => n, fun | n => n⟩
theorem Tryd.lays195 : Go.Proofs.Lays.n195 Tryd.prog Tryd.lays195_ren := {
  mixed := by kernel_rfl
  f195 := Tryd.func73.trans (congrArg some (by kernel_rfl))
  t0 := Tryd.underlying0
  a0 := Tryd.isAgg0
  z0 := Tryd.sizeOf0
  v0 := Tryd.zeroValue0
  t3 := Tryd.underlying3
  a3 := Tryd.isAgg3
  z3 := Tryd.sizeOf3
  v3 := Tryd.zeroValue3
  t4 := Tryd.underlying4
  a4 := Tryd.isAgg4
  z4 := Tryd.sizeOf4
  v4 := Tryd.zeroValue4
  t9 := Tryd.underlying9
  a9 := Tryd.isAgg9
  z9 := Tryd.sizeOf9
  v9 := Tryd.zeroValue9 }
open Go.RowKit in
/-- unicode/utf8.RuneCountInString: "RuneCountInString is like RuneCount but its input is a string." ("RuneCount returns the number of runes in p. Erroneous and short encodings are treated as single runes of width 1 byte."): EVERY STRING, valid UTF-8 or not: 'Lib.runeCount s' (plain Lean over the model's own 'Utf8.decode'; 'Lib.runeCount_le': at most len(s); 'Lib.runeCount_ascii': on ASCII: len(s)). THE ONE CONDITION: len(s) below 2^63 - 1 (the counter does not wrap): the form's reach pays it. THE WORLD BEHIND THE CALL: ONE BLOCK MORE: the model's iterator over s, at its end: all else as it was. (LAID: no walk: one application.) -/
theorem Tryd.utf8_RuneCountInString (s : ByteArray) (w : World) (hs : s.size < 9223372036854775807) :
    Calls Tryd.prog 73 #[.string s] w fun e w' => e = .returned (.int .i64 (Lib.runeCount s)) ∧ ∃ pos, w' = w.iter s pos := Any.utf8_RuneCountInString Tryd.lays195 s w hs
def Tryd.lays217_ren : Go.Shelf.Ren := ⟨fun | 217 => 99 | 266 => 106 | n => n, fun | 9 => 9 | 5 => 5 | 3 => 3 | n => n, fun | n => n⟩
theorem Tryd.lays217 : Go.Proofs.Lays.n217 Tryd.prog Tryd.lays217_ren := {
  mixed := by kernel_rfl
  f217 := Tryd.func99.trans (congrArg some (by kernel_rfl))
  f266 := Tryd.func106.trans (congrArg some (by kernel_rfl))
  t3 := Tryd.underlying3
  a3 := Tryd.isAgg3
  z3 := Tryd.sizeOf3
  v3 := Tryd.zeroValue3
  t5 := Tryd.underlying5
  a5 := Tryd.isAgg5
  z5 := Tryd.sizeOf5
  v5 := Tryd.zeroValue5
  t9 := Tryd.underlying9
  a9 := Tryd.isAgg9
  z9 := Tryd.sizeOf9
  v9 := Tryd.zeroValue9 }
open Go.RowKit Go.Lib in
/-- internal/stringslite.IndexByte (what strings.IndexByte calls): IT RETURNS 'Lib.indexByte s c'; the world is as it was. (LAID: no walk: one application.) -/
theorem Tryd.stringslite_IndexByte (s : ByteArray) (c : Int) (w : World) :
    Calls Tryd.prog 99 #[.string s, .int .u8 c] w fun e w' => e = .returned (.int .i64 (Lib.indexByte s.data.toList c.toNat.toUInt8)) ∧ w' = w := Any.stringslite_IndexByte Tryd.lays217 s c w
def Tryd.lays224_ren : Go.Shelf.Ren := ⟨fun | 224 => 101 | n => n, fun | 3 => 3 | n => n, fun | n => n⟩
theorem Tryd.lays224 : Go.Proofs.Lays.n224 Tryd.prog Tryd.lays224_ren := {
  mixed := by kernel_rfl
  f224 := Tryd.func101.trans (congrArg some (by kernel_rfl))
  t3 := Tryd.underlying3
  a3 := Tryd.isAgg3
  z3 := Tryd.sizeOf3
  v3 := Tryd.zeroValue3 }
open Go.RowKit Go.Lib in
/-- internal/bytealg.Cutover: "Cutover reports the number of failures of IndexByte we should tolerate before switching over to Index. n is the number of bytes processed so far.": on amd64: (n + 16) / 8. (LAID: no walk: one application.) -/
theorem Tryd.bytealg_Cutover (n : Int) (h0 : 0 ≤ n) (h1 : n < 4611686018427387904) (w : World) :
    Calls Tryd.prog 101 #[.int .i64 n] w fun e w' => e = .returned (.int .i64 ((n + 16) / 8)) ∧ w' = w := Any.bytealg_Cutover Tryd.lays224 n h0 h1 w
def Tryd.lays314_ren : Go.Shelf.Ren := ⟨fun | 314 => 107 | n => n, fun | 9 => 9 | 51 => 101 | 3 => 3 | 4 => 4 | 5 => 5 | 46 => 81 | n => n, fun | n => n⟩
theorem Tryd.lays314 : Go.Proofs.Lays.n314 Tryd.prog Tryd.lays314_ren := {
  mixed := by kernel_rfl
  f314 := Tryd.func107.trans (congrArg some (by kernel_rfl))
  t3 := Tryd.underlying3
  a3 := Tryd.isAgg3
  z3 := Tryd.sizeOf3
  v3 := Tryd.zeroValue3
  t4 := Tryd.underlying4
  a4 := Tryd.isAgg4
  z4 := Tryd.sizeOf4
  v4 := Tryd.zeroValue4
  t5 := Tryd.underlying5
  a5 := Tryd.isAgg5
  z5 := Tryd.sizeOf5
  v5 := Tryd.zeroValue5
  t9 := Tryd.underlying9
  a9 := Tryd.isAgg9
  z9 := Tryd.sizeOf9
  v9 := Tryd.zeroValue9
  t46 := Tryd.underlying81
  a46 := Tryd.isAgg81
  z46 := Tryd.sizeOf81
  v46 := Tryd.zeroValue81
  t51 := Tryd.underlying101
  a51 := Tryd.isAgg101
  z51 := Tryd.sizeOf101
  v51 := Tryd.zeroValue101 }
open Go.RowKit Go.Lib in
/-- hashStr: "returns the hash and the appropriate multiplicative factor for use in Rabin-Karp algorithm": THE HASH OF ALL OF sep, AND 16777619 ^ len(sep), both in uint32. (LAID: no walk: one application.) -/
theorem Tryd.bytealg_hashStr (sep : ByteArray) (hs : sep.size < 4294967281) (w : World) :
    Calls Tryd.prog 107 #[.string sep] w fun e w' => e = .returned (.tuple #[.int .u32 (RK.H sep.data.toList % 4294967296), .int .u32 (16777619 ^ sep.size % 4294967296)]) ∧ w' = w := Any.bytealg_hashStr Tryd.lays314 sep hs w
def Tryd.lays267_ren : Go.Shelf.Ren := ⟨fun | 267 => 102 | 314 => 107 | n => n, fun | 9 => 9 | 3 => 3 | 146 => 102 | 51 => 101 | 4 => 4 | 5 => 5 | 46 => 81 | n => n, fun | n => n⟩
theorem Tryd.lays267 : Go.Proofs.Lays.n267 Tryd.prog Tryd.lays267_ren := {
  mixed := by kernel_rfl
  f267 := Tryd.func102.trans (congrArg some (by kernel_rfl))
  f314 := Tryd.func107.trans (congrArg some (by kernel_rfl))
  t3 := Tryd.underlying3
  a3 := Tryd.isAgg3
  z3 := Tryd.sizeOf3
  v3 := Tryd.zeroValue3
  t4 := Tryd.underlying4
  a4 := Tryd.isAgg4
  z4 := Tryd.sizeOf4
  v4 := Tryd.zeroValue4
  t5 := Tryd.underlying5
  a5 := Tryd.isAgg5
  z5 := Tryd.sizeOf5
  v5 := Tryd.zeroValue5
  t9 := Tryd.underlying9
  a9 := Tryd.isAgg9
  z9 := Tryd.sizeOf9
  v9 := Tryd.zeroValue9
  t46 := Tryd.underlying81
  a46 := Tryd.isAgg81
  z46 := Tryd.sizeOf81
  v46 := Tryd.zeroValue81
  t51 := Tryd.underlying101
  a51 := Tryd.isAgg101
  z51 := Tryd.sizeOf101
  v51 := Tryd.zeroValue101
  t146 := Tryd.underlying102
  a146 := Tryd.isAgg102
  z146 := Tryd.sizeOf102
  v146 := Tryd.zeroValue102 }
open Go.RowKit Go.Lib in
theorem Tryd.bytealg_IndexRabinKarp (s sep : ByteArray) (h1 : 1 ≤ sep.size) (h2 : sep.size ≤ s.size) (hs : s.size < 4294967281) (w : World) :
    Calls Tryd.prog 102 #[.string s, .string sep] w fun e w' => e = .returned (.int .i64 (Lib.index s.data.toList sep.data.toList)) ∧ w' = w := Any.bytealg_IndexRabinKarp Tryd.lays267 s sep h1 h2 hs w
def Tryd.lays219_ren : Go.Shelf.Ren := ⟨fun | 219 => 92 | 217 => 99 | 225 => 100 | 224 => 101 | 267 => 102 | 266 => 106 | 314 => 107 | n => n, fun | 9 => 9 | 3 => 3 | 4 => 4 | 5 => 5 | 46 => 81 | 146 => 102 | 51 => 101 | n => n, fun | 1 => 0 | n => n⟩
theorem Tryd.lays219 : Go.Proofs.Lays.n219 Tryd.prog Tryd.lays219_ren := {
  mixed := by kernel_rfl
  f217 := Tryd.func99.trans (congrArg some (by kernel_rfl))
  f219 := Tryd.func92.trans (congrArg some (by kernel_rfl))
  f224 := Tryd.func101.trans (congrArg some (by kernel_rfl))
  f225 := Tryd.func100.trans (congrArg some (by kernel_rfl))
  f266 := Tryd.func106.trans (congrArg some (by kernel_rfl))
  f267 := Tryd.func102.trans (congrArg some (by kernel_rfl))
  f314 := Tryd.func107.trans (congrArg some (by kernel_rfl))
  t3 := Tryd.underlying3
  a3 := Tryd.isAgg3
  z3 := Tryd.sizeOf3
  v3 := Tryd.zeroValue3
  t4 := Tryd.underlying4
  a4 := Tryd.isAgg4
  z4 := Tryd.sizeOf4
  v4 := Tryd.zeroValue4
  t5 := Tryd.underlying5
  a5 := Tryd.isAgg5
  z5 := Tryd.sizeOf5
  v5 := Tryd.zeroValue5
  t9 := Tryd.underlying9
  a9 := Tryd.isAgg9
  z9 := Tryd.sizeOf9
  v9 := Tryd.zeroValue9
  t46 := Tryd.underlying81
  a46 := Tryd.isAgg81
  z46 := Tryd.sizeOf81
  v46 := Tryd.zeroValue81
  t51 := Tryd.underlying101
  a51 := Tryd.isAgg101
  z51 := Tryd.sizeOf101
  v51 := Tryd.zeroValue101
  t146 := Tryd.underlying102
  a146 := Tryd.isAgg102
  z146 := Tryd.sizeOf102
  v146 := Tryd.zeroValue102
  g1 := by kernel_rfl }
open Go.RowKit Go.Lib in
/-- internal/stringslite.Index (what strings.Index calls) AT A substr OF ONE BYTE c: IT RETURNS 'Lib.indexByte s c'; the world is as it was. (LAID: no walk: one application.) -/
theorem Tryd.stringslite_Index_one (s : ByteArray) (c : UInt8) (w : World) :
    Calls Tryd.prog 92 #[.string s, .string ⟨#[c]⟩] w fun e w' => e = .returned (.int .i64 (Lib.indexByte s.data.toList c)) ∧ w' = w := Any.stringslite_Index_one Tryd.lays219 s c w
open Go.RowKit Go.Lib in
/-- internal/stringslite.Index (what strings.Index calls) AT A substr OF WHATEVER LENGTH: IT RETURNS 'Lib.index s substr'; the world is as it was. 'm': what internal/bytealg.MaxLen holds: whatever. (LAID: no walk: one application.) -/
theorem Tryd.stringslite_Index (s sub : ByteArray) (m : Int) (w : World) (hs : s.size < 4294967281) (hm : w.cell? ⟨0, 0, none⟩ = some (.int .i64 m)) :
    Calls Tryd.prog 92 #[.string s, .string sub] w fun e w' => e = .returned (.int .i64 (Lib.index s.data.toList sub.data.toList)) ∧ w' = w := Any.stringslite_Index Tryd.lays219 s sub m w hs hm
def Tryd.lays143_ren : Go.Shelf.Ren := ⟨fun | 143 => 75 | 219 => 92 | 217 => 99 | 225 => 100 | 224 => 101 | 267 => 102 | 266 => 106 | 314 => 107 | n => n, fun | 9 => 9 | 3 => 3 | 4 => 4 | 5 => 5 | 46 => 81 | 146 => 102 | 51 => 101 | n => n, fun | 1 => 0 | n => n⟩
theorem Tryd.lays143 : Go.Proofs.Lays.n143 Tryd.prog Tryd.lays143_ren := {
  mixed := by kernel_rfl
  f143 := Tryd.func75.trans (congrArg some (by kernel_rfl))
  f217 := Tryd.func99.trans (congrArg some (by kernel_rfl))
  f219 := Tryd.func92.trans (congrArg some (by kernel_rfl))
  f224 := Tryd.func101.trans (congrArg some (by kernel_rfl))
  f225 := Tryd.func100.trans (congrArg some (by kernel_rfl))
  f266 := Tryd.func106.trans (congrArg some (by kernel_rfl))
  f267 := Tryd.func102.trans (congrArg some (by kernel_rfl))
  f314 := Tryd.func107.trans (congrArg some (by kernel_rfl))
  t3 := Tryd.underlying3
  a3 := Tryd.isAgg3
  z3 := Tryd.sizeOf3
  v3 := Tryd.zeroValue3
  t4 := Tryd.underlying4
  a4 := Tryd.isAgg4
  z4 := Tryd.sizeOf4
  v4 := Tryd.zeroValue4
  t5 := Tryd.underlying5
  a5 := Tryd.isAgg5
  z5 := Tryd.sizeOf5
  v5 := Tryd.zeroValue5
  t9 := Tryd.underlying9
  a9 := Tryd.isAgg9
  z9 := Tryd.sizeOf9
  v9 := Tryd.zeroValue9
  t46 := Tryd.underlying81
  a46 := Tryd.isAgg81
  z46 := Tryd.sizeOf81
  v46 := Tryd.zeroValue81
  t51 := Tryd.underlying101
  a51 := Tryd.isAgg101
  z51 := Tryd.sizeOf101
  v51 := Tryd.zeroValue101
  t146 := Tryd.underlying102
  a146 := Tryd.isAgg102
  z146 := Tryd.sizeOf102
  v146 := Tryd.zeroValue102
  g1 := by kernel_rfl }
open Go.RowKit Go.Lib in
/-- strings.Index: "Index returns the index of the first instance of substr in s, or -1 if substr is not present in s.": AT A substr OF ONE BYTE c: IT RETURNS 'Lib.indexByte s c'; the world is as it was. (LAID: no walk: one application.) -/
theorem Tryd.strings_Index_one (s : ByteArray) (c : UInt8) (w : World) :
    Calls Tryd.prog 75 #[.string s, .string ⟨#[c]⟩] w fun e w' => e = .returned (.int .i64 (Lib.indexByte s.data.toList c)) ∧ w' = w := Any.strings_Index_one Tryd.lays143 s c w
open Go.RowKit Go.Lib in
/-- strings.Index: "Index returns the index of the first instance of substr in s, or -1 if substr is not present in s.": IT RETURNS 'Lib.index s substr'; the world is as it was. (LAID: no walk: one application.) -/
theorem Tryd.strings_Index (s sub : ByteArray) (m : Int) (w : World) (hs : s.size < 4294967281) (hm : w.cell? ⟨0, 0, none⟩ = some (.int .i64 m)) :
    Calls Tryd.prog 75 #[.string s, .string sub] w fun e w' => e = .returned (.int .i64 (Lib.index s.data.toList sub.data.toList)) ∧ w' = w := Any.strings_Index Tryd.lays143 s sub m w hs hm
def Tryd.lays144_ren : Go.Shelf.Ren := ⟨fun | 144 => 60 | 143 => 75 | 219 => 92 | 217 => 99 | 225 => 100 | 224 => 101 | 267 => 102 | 266 => 106 | 314 => 107 | n => n, fun | 9 => 9 | 4 => 4 | 3 => 3 | 5 => 5 | 46 => 81 | 146 => 102 | 51 => 101 | n => n, fun | 1 => 0 | n => n⟩
theorem Tryd.lays144 : Go.Proofs.Lays.n144 Tryd.prog Tryd.lays144_ren := {
  mixed := by kernel_rfl
  f143 := Tryd.func75.trans (congrArg some (by kernel_rfl))
  f144 := Tryd.func60.trans (congrArg some (by kernel_rfl))
  f217 := Tryd.func99.trans (congrArg some (by kernel_rfl))
  f219 := Tryd.func92.trans (congrArg some (by kernel_rfl))
  f224 := Tryd.func101.trans (congrArg some (by kernel_rfl))
  f225 := Tryd.func100.trans (congrArg some (by kernel_rfl))
  f266 := Tryd.func106.trans (congrArg some (by kernel_rfl))
  f267 := Tryd.func102.trans (congrArg some (by kernel_rfl))
  f314 := Tryd.func107.trans (congrArg some (by kernel_rfl))
  t3 := Tryd.underlying3
  a3 := Tryd.isAgg3
  z3 := Tryd.sizeOf3
  v3 := Tryd.zeroValue3
  t4 := Tryd.underlying4
  a4 := Tryd.isAgg4
  z4 := Tryd.sizeOf4
  v4 := Tryd.zeroValue4
  t5 := Tryd.underlying5
  a5 := Tryd.isAgg5
  z5 := Tryd.sizeOf5
  v5 := Tryd.zeroValue5
  t9 := Tryd.underlying9
  a9 := Tryd.isAgg9
  z9 := Tryd.sizeOf9
  v9 := Tryd.zeroValue9
  t46 := Tryd.underlying81
  a46 := Tryd.isAgg81
  z46 := Tryd.sizeOf81
  v46 := Tryd.zeroValue81
  t51 := Tryd.underlying101
  a51 := Tryd.isAgg101
  z51 := Tryd.sizeOf101
  v51 := Tryd.zeroValue101
  t146 := Tryd.underlying102
  a146 := Tryd.isAgg102
  z146 := Tryd.sizeOf102
  v146 := Tryd.zeroValue102
  g1 := by kernel_rfl }
open Go.RowKit Go.Lib in
/-- strings.Contains: "Contains reports whether substr is within s.": AT A substr OF ONE BYTE c: IT RETURNS 'decide (0 ≤ Lib.indexByte s c)'; the world is as it was. (LAID: no walk: one application.) -/
theorem Tryd.strings_Contains_one (s : ByteArray) (c : UInt8) (w : World) :
    Calls Tryd.prog 60 #[.string s, .string ⟨#[c]⟩] w fun e w' => e = .returned (.bool (decide (0 ≤ Lib.indexByte s.data.toList c))) ∧ w' = w := Any.strings_Contains_one Tryd.lays144 s c w
open Go.RowKit Go.Lib in
/-- strings.Contains: "Contains reports whether substr is within s.": IT RETURNS 'Lib.contains s substr'; the world is as it was. (LAID: no walk: one application.) -/
theorem Tryd.strings_Contains (s sub : ByteArray) (m : Int) (w : World) (hs : s.size < 4294967281) (hm : w.cell? ⟨0, 0, none⟩ = some (.int .i64 m)) :
    Calls Tryd.prog 60 #[.string s, .string sub] w fun e w' => e = .returned (.bool (Lib.contains s.data.toList sub.data.toList)) ∧ w' = w := Any.strings_Contains Tryd.lays144 s sub m w hs hm
def Tryd.lays138_ren : Go.Shelf.Ren := ⟨fun | 138 => 58 | 195 => 73 | 218 => 74 | 143 => 75 | 219 => 92 | 217 => 99 | 225 => 100 | 224 => 101 | 267 => 102 | 266 => 106 | 314 => 107 | n => n, fun | 9 => 9 | 3 => 3 | 4 => 4 | 5 => 5 | 0 => 0 | 46 => 81 | 146 => 102 | 51 => 101 | n => n, fun | 1 => 0 | n => n⟩
theorem Tryd.lays138 : Go.Proofs.Lays.n138 Tryd.prog Tryd.lays138_ren := {
  mixed := by kernel_rfl
  f138 := Tryd.func58.trans (congrArg some (by kernel_rfl))
  f143 := Tryd.func75.trans (congrArg some (by kernel_rfl))
  f195 := Tryd.func73.trans (congrArg some (by kernel_rfl))
  f217 := Tryd.func99.trans (congrArg some (by kernel_rfl))
  f218 := Tryd.func74.trans (congrArg some (by kernel_rfl))
  f219 := Tryd.func92.trans (congrArg some (by kernel_rfl))
  f224 := Tryd.func101.trans (congrArg some (by kernel_rfl))
  f225 := Tryd.func100.trans (congrArg some (by kernel_rfl))
  f266 := Tryd.func106.trans (congrArg some (by kernel_rfl))
  f267 := Tryd.func102.trans (congrArg some (by kernel_rfl))
  f314 := Tryd.func107.trans (congrArg some (by kernel_rfl))
  t0 := Tryd.underlying0
  a0 := Tryd.isAgg0
  z0 := Tryd.sizeOf0
  v0 := Tryd.zeroValue0
  t3 := Tryd.underlying3
  a3 := Tryd.isAgg3
  z3 := Tryd.sizeOf3
  v3 := Tryd.zeroValue3
  t4 := Tryd.underlying4
  a4 := Tryd.isAgg4
  z4 := Tryd.sizeOf4
  v4 := Tryd.zeroValue4
  t5 := Tryd.underlying5
  a5 := Tryd.isAgg5
  z5 := Tryd.sizeOf5
  v5 := Tryd.zeroValue5
  t9 := Tryd.underlying9
  a9 := Tryd.isAgg9
  z9 := Tryd.sizeOf9
  v9 := Tryd.zeroValue9
  t46 := Tryd.underlying81
  a46 := Tryd.isAgg81
  z46 := Tryd.sizeOf81
  v46 := Tryd.zeroValue81
  t51 := Tryd.underlying101
  a51 := Tryd.isAgg101
  z51 := Tryd.sizeOf101
  v51 := Tryd.zeroValue101
  t146 := Tryd.underlying102
  a146 := Tryd.isAgg102
  z146 := Tryd.sizeOf102
  v146 := Tryd.zeroValue102
  g1 := by kernel_rfl }
open Go.RowKit Go.Lib in
/-- strings.Count AT A substr OF ONE BYTE ('hp'): "Count counts the number of non-overlapping instances of substr in s.": IT RETURNS 'Lib.countByte s (that byte)'; the world is as it was. ✋ NO CONTRACT HERE YET at an empty substr (utf8.RuneCountInString) or at a longer one (a loop over strings.Index). (LAID: no walk: one application.) -/
theorem Tryd.strings_Count_one (s : ByteArray) (c : UInt8) (w : World) :
    Calls Tryd.prog 58 #[.string s, .string ⟨#[c]⟩] w fun e w' => e = .returned (.int .i64 (Lib.countByte s.data.toList c)) ∧ w' = w := Any.strings_Count_one Tryd.lays138 s c w
open Go.RowKit Go.Lib in
/-- strings.Count AT A substr OF TWO BYTES OR MORE: "Count counts the number of non-overlapping instances of substr in s.": IT RETURNS 'Lib.count s substr'; the world is as it was. (LAID: no walk: one application.) -/
theorem Tryd.strings_Count (s sub : ByteArray) (m : Int) (w : World) (hs : s.size < 4294967281) (hm : w.cell? ⟨0, 0, none⟩ = some (.int .i64 m)) (h2 : 2 ≤ sub.size) :
    Calls Tryd.prog 58 #[.string s, .string sub] w fun e w' => e = .returned (.int .i64 (Lib.countB s sub)) ∧ w' = w := Any.strings_Count Tryd.lays138 s sub m w hs hm h2
def Tryd.laysM219_ren : Go.Shelf.Ren := ⟨fun | 219 => 92 | 217 => 99 | 225 => 100 | 224 => 101 | 267 => 102 | 266 => 106 | 314 => 107 | n => n, fun | 9 => 9 | 3 => 3 | 4 => 4 | 5 => 5 | 46 => 81 | 146 => 102 | 51 => 101 | n => n, fun | 1 => 0 | n => n⟩
theorem Tryd.laysM219 : Go.Proofs.LaysM.n219 Tryd.prog Tryd.laysM219_ren := {
  mixed := by kernel_rfl
  f217 := Tryd.func99.trans (congrArg some (by kernel_rfl))
  f219 := Tryd.func92.trans (congrArg some (by kernel_rfl))
  f224 := Tryd.func101.trans (congrArg some (by kernel_rfl))
  f225 := Tryd.func100.trans (congrArg some (by kernel_rfl))
  f266 := Tryd.func106.trans (congrArg some (by kernel_rfl))
  f267 := Tryd.func102.trans (congrArg some (by kernel_rfl))
  f314 := Tryd.func107.trans (congrArg some (by kernel_rfl))
  t3 := Tryd.underlying3
  a3 := Tryd.isAgg3
  z3 := Tryd.sizeOf3
  v3 := Tryd.zeroValue3
  t4 := Tryd.underlying4
  a4 := Tryd.isAgg4
  z4 := Tryd.sizeOf4
  v4 := Tryd.zeroValue4
  t5 := Tryd.underlying5
  a5 := Tryd.isAgg5
  z5 := Tryd.sizeOf5
  v5 := Tryd.zeroValue5
  t9 := Tryd.underlying9
  a9 := Tryd.isAgg9
  z9 := Tryd.sizeOf9
  v9 := Tryd.zeroValue9
  t46 := Tryd.underlying81
  a46 := Tryd.isAgg81
  z46 := Tryd.sizeOf81
  v46 := Tryd.zeroValue81
  t51 := Tryd.underlying101
  a51 := Tryd.isAgg101
  z51 := Tryd.sizeOf101
  v51 := Tryd.zeroValue101
  t146 := Tryd.underlying102
  a146 := Tryd.isAgg102
  z146 := Tryd.sizeOf102
  v146 := Tryd.zeroValue102
  g1 := by kernel_rfl
  i3 := by kernel_rfl
  i4 := by kernel_rfl
  i5 := by kernel_rfl
  i9 := by kernel_rfl
  i46 := by kernel_rfl
  i51 := by kernel_rfl
  i146 := by kernel_rfl
  m1 := by kernel_rfl
  s1_3 := fun w h => Go.Proofs.cell_of_shapedOpen_int (zero := #[.int .i64 0]) (t := 3) h (of_decide_eq_true (by kernel_rfl)) (by kernel_rfl) rfl (by kernel_rfl) (by kernel_rfl) Tryd.underlying3 }
open Go.RowKit Go.Lib in
theorem Tryd.stringslite_Index_shaped (s sub : ByteArray) (w : World) (h : w.ShapedOpen Tryd.prog) (hs : s.size < 4294967281) :
    Calls Tryd.prog 92 #[.string s, .string sub] w fun e w' => e = .returned (.int .i64 (Lib.index s.data.toList sub.data.toList)) ∧ w' = w := Any.stringslite_Index_shaped Tryd.laysM219 s sub w h hs
def Tryd.laysM143_ren : Go.Shelf.Ren := ⟨fun | 143 => 75 | 219 => 92 | 217 => 99 | 225 => 100 | 224 => 101 | 267 => 102 | 266 => 106 | 314 => 107 | n => n, fun | 9 => 9 | 3 => 3 | 4 => 4 | 5 => 5 | 46 => 81 | 146 => 102 | 51 => 101 | n => n, fun | 1 => 0 | n => n⟩
theorem Tryd.laysM143 : Go.Proofs.LaysM.n143 Tryd.prog Tryd.laysM143_ren := {
  mixed := by kernel_rfl
  f143 := Tryd.func75.trans (congrArg some (by kernel_rfl))
  f217 := Tryd.func99.trans (congrArg some (by kernel_rfl))
  f219 := Tryd.func92.trans (congrArg some (by kernel_rfl))
  f224 := Tryd.func101.trans (congrArg some (by kernel_rfl))
  f225 := Tryd.func100.trans (congrArg some (by kernel_rfl))
  f266 := Tryd.func106.trans (congrArg some (by kernel_rfl))
  f267 := Tryd.func102.trans (congrArg some (by kernel_rfl))
  f314 := Tryd.func107.trans (congrArg some (by kernel_rfl))
  t3 := Tryd.underlying3
  a3 := Tryd.isAgg3
  z3 := Tryd.sizeOf3
  v3 := Tryd.zeroValue3
  t4 := Tryd.underlying4
  a4 := Tryd.isAgg4
  z4 := Tryd.sizeOf4
  v4 := Tryd.zeroValue4
  t5 := Tryd.underlying5
  a5 := Tryd.isAgg5
  z5 := Tryd.sizeOf5
  v5 := Tryd.zeroValue5
  t9 := Tryd.underlying9
  a9 := Tryd.isAgg9
  z9 := Tryd.sizeOf9
  v9 := Tryd.zeroValue9
  t46 := Tryd.underlying81
  a46 := Tryd.isAgg81
  z46 := Tryd.sizeOf81
  v46 := Tryd.zeroValue81
  t51 := Tryd.underlying101
  a51 := Tryd.isAgg101
  z51 := Tryd.sizeOf101
  v51 := Tryd.zeroValue101
  t146 := Tryd.underlying102
  a146 := Tryd.isAgg102
  z146 := Tryd.sizeOf102
  v146 := Tryd.zeroValue102
  g1 := by kernel_rfl
  i3 := by kernel_rfl
  i4 := by kernel_rfl
  i5 := by kernel_rfl
  i9 := by kernel_rfl
  i46 := by kernel_rfl
  i51 := by kernel_rfl
  i146 := by kernel_rfl
  m1 := by kernel_rfl
  s1_3 := fun w h => Go.Proofs.cell_of_shapedOpen_int (zero := #[.int .i64 0]) (t := 3) h (of_decide_eq_true (by kernel_rfl)) (by kernel_rfl) rfl (by kernel_rfl) (by kernel_rfl) Tryd.underlying3 }
open Go.RowKit Go.Lib in
theorem Tryd.strings_Index_shaped (s sub : ByteArray) (w : World) (h : w.ShapedOpen Tryd.prog) (hs : s.size < 4294967281) :
    Calls Tryd.prog 75 #[.string s, .string sub] w fun e w' => e = .returned (.int .i64 (Lib.index s.data.toList sub.data.toList)) ∧ w' = w := Any.strings_Index_shaped Tryd.laysM143 s sub w h hs
def Tryd.laysM144_ren : Go.Shelf.Ren := ⟨fun | 144 => 60 | 143 => 75 | 219 => 92 | 217 => 99 | 225 => 100 | 224 => 101 | 267 => 102 | 266 => 106 | 314 => 107 | n => n, fun | 9 => 9 | 4 => 4 | 3 => 3 | 5 => 5 | 46 => 81 | 146 => 102 | 51 => 101 | n => n, fun | 1 => 0 | n => n⟩
theorem Tryd.laysM144 : Go.Proofs.LaysM.n144 Tryd.prog Tryd.laysM144_ren := {
  mixed := by kernel_rfl
  f143 := Tryd.func75.trans (congrArg some (by kernel_rfl))
  f144 := Tryd.func60.trans (congrArg some (by kernel_rfl))
  f217 := Tryd.func99.trans (congrArg some (by kernel_rfl))
  f219 := Tryd.func92.trans (congrArg some (by kernel_rfl))
  f224 := Tryd.func101.trans (congrArg some (by kernel_rfl))
  f225 := Tryd.func100.trans (congrArg some (by kernel_rfl))
  f266 := Tryd.func106.trans (congrArg some (by kernel_rfl))
  f267 := Tryd.func102.trans (congrArg some (by kernel_rfl))
  f314 := Tryd.func107.trans (congrArg some (by kernel_rfl))
  t3 := Tryd.underlying3
  a3 := Tryd.isAgg3
  z3 := Tryd.sizeOf3
  v3 := Tryd.zeroValue3
  t4 := Tryd.underlying4
  a4 := Tryd.isAgg4
  z4 := Tryd.sizeOf4
  v4 := Tryd.zeroValue4
  t5 := Tryd.underlying5
  a5 := Tryd.isAgg5
  z5 := Tryd.sizeOf5
  v5 := Tryd.zeroValue5
  t9 := Tryd.underlying9
  a9 := Tryd.isAgg9
  z9 := Tryd.sizeOf9
  v9 := Tryd.zeroValue9
  t46 := Tryd.underlying81
  a46 := Tryd.isAgg81
  z46 := Tryd.sizeOf81
  v46 := Tryd.zeroValue81
  t51 := Tryd.underlying101
  a51 := Tryd.isAgg101
  z51 := Tryd.sizeOf101
  v51 := Tryd.zeroValue101
  t146 := Tryd.underlying102
  a146 := Tryd.isAgg102
  z146 := Tryd.sizeOf102
  v146 := Tryd.zeroValue102
  g1 := by kernel_rfl
  i3 := by kernel_rfl
  i4 := by kernel_rfl
  i5 := by kernel_rfl
  i9 := by kernel_rfl
  i46 := by kernel_rfl
  i51 := by kernel_rfl
  i146 := by kernel_rfl
  m1 := by kernel_rfl
  s1_3 := fun w h => Go.Proofs.cell_of_shapedOpen_int (zero := #[.int .i64 0]) (t := 3) h (of_decide_eq_true (by kernel_rfl)) (by kernel_rfl) rfl (by kernel_rfl) (by kernel_rfl) Tryd.underlying3 }
open Go.RowKit Go.Lib in
theorem Tryd.strings_Contains_shaped (s sub : ByteArray) (w : World) (h : w.ShapedOpen Tryd.prog) (hs : s.size < 4294967281) :
    Calls Tryd.prog 60 #[.string s, .string sub] w fun e w' => e = .returned (.bool (Lib.contains s.data.toList sub.data.toList)) ∧ w' = w := Any.strings_Contains_shaped Tryd.laysM144 s sub w h hs
def Tryd.laysM138_ren : Go.Shelf.Ren := ⟨fun | 138 => 58 | 195 => 73 | 218 => 74 | 143 => 75 | 219 => 92 | 217 => 99 | 225 => 100 | 224 => 101 | 267 => 102 | 266 => 106 | 314 => 107 | n => n, fun | 9 => 9 | 3 => 3 | 4 => 4 | 5 => 5 | 0 => 0 | 46 => 81 | 146 => 102 | 51 => 101 | n => n, fun | 1 => 0 | n => n⟩
theorem Tryd.laysM138 : Go.Proofs.LaysM.n138 Tryd.prog Tryd.laysM138_ren := {
  mixed := by kernel_rfl
  f138 := Tryd.func58.trans (congrArg some (by kernel_rfl))
  f143 := Tryd.func75.trans (congrArg some (by kernel_rfl))
  f195 := Tryd.func73.trans (congrArg some (by kernel_rfl))
  f217 := Tryd.func99.trans (congrArg some (by kernel_rfl))
  f218 := Tryd.func74.trans (congrArg some (by kernel_rfl))
  f219 := Tryd.func92.trans (congrArg some (by kernel_rfl))
  f224 := Tryd.func101.trans (congrArg some (by kernel_rfl))
  f225 := Tryd.func100.trans (congrArg some (by kernel_rfl))
  f266 := Tryd.func106.trans (congrArg some (by kernel_rfl))
  f267 := Tryd.func102.trans (congrArg some (by kernel_rfl))
  f314 := Tryd.func107.trans (congrArg some (by kernel_rfl))
  t0 := Tryd.underlying0
  a0 := Tryd.isAgg0
  z0 := Tryd.sizeOf0
  v0 := Tryd.zeroValue0
  t3 := Tryd.underlying3
  a3 := Tryd.isAgg3
  z3 := Tryd.sizeOf3
  v3 := Tryd.zeroValue3
  t4 := Tryd.underlying4
  a4 := Tryd.isAgg4
  z4 := Tryd.sizeOf4
  v4 := Tryd.zeroValue4
  t5 := Tryd.underlying5
  a5 := Tryd.isAgg5
  z5 := Tryd.sizeOf5
  v5 := Tryd.zeroValue5
  t9 := Tryd.underlying9
  a9 := Tryd.isAgg9
  z9 := Tryd.sizeOf9
  v9 := Tryd.zeroValue9
  t46 := Tryd.underlying81
  a46 := Tryd.isAgg81
  z46 := Tryd.sizeOf81
  v46 := Tryd.zeroValue81
  t51 := Tryd.underlying101
  a51 := Tryd.isAgg101
  z51 := Tryd.sizeOf101
  v51 := Tryd.zeroValue101
  t146 := Tryd.underlying102
  a146 := Tryd.isAgg102
  z146 := Tryd.sizeOf102
  v146 := Tryd.zeroValue102
  g1 := by kernel_rfl
  i0 := by kernel_rfl
  i3 := by kernel_rfl
  i4 := by kernel_rfl
  i5 := by kernel_rfl
  i9 := by kernel_rfl
  i46 := by kernel_rfl
  i51 := by kernel_rfl
  i146 := by kernel_rfl
  m1 := by kernel_rfl
  s1_3 := fun w h => Go.Proofs.cell_of_shapedOpen_int (zero := #[.int .i64 0]) (t := 3) h (of_decide_eq_true (by kernel_rfl)) (by kernel_rfl) rfl (by kernel_rfl) (by kernel_rfl) Tryd.underlying3 }
open Go.RowKit Go.Lib in
theorem Tryd.strings_Count_shaped (s sub : ByteArray) (w : World) (h : w.ShapedOpen Tryd.prog) (hs : s.size < 4294967281) (h2 : 2 ≤ sub.size) :
    Calls Tryd.prog 58 #[.string s, .string sub] w fun e w' => e = .returned (.int .i64 (Lib.countB s sub)) ∧ w' = w := Any.strings_Count_shaped Tryd.laysM138 s sub w h hs h2
def Tryd.lays206_ren : Go.Shelf.Ren := ⟨fun | 206 => 81 | n => n, fun | 9 => 9 | 4 => 4 | 3 => 3 | n => n, fun | n => n⟩
theorem Tryd.lays206 : Go.Proofs.Lays.n206 Tryd.prog Tryd.lays206_ren := {
  mixed := by kernel_rfl
  f206 := Tryd.func81.trans (congrArg some (by kernel_rfl))
  t3 := Tryd.underlying3
  a3 := Tryd.isAgg3
  z3 := Tryd.sizeOf3
  v3 := Tryd.zeroValue3
  t4 := Tryd.underlying4
  a4 := Tryd.isAgg4
  z4 := Tryd.sizeOf4
  v4 := Tryd.zeroValue4
  t9 := Tryd.underlying9
  a9 := Tryd.isAgg9
  z9 := Tryd.sizeOf9
  v9 := Tryd.zeroValue9 }
open Go.RowKit Go.Lib in
/-- internal/stringslite.HasPrefix (what strings.HasPrefix calls). (LAID: no walk: one application.) -/
theorem Tryd.stringslite_HasPrefix (s p : ByteArray) (w : World) :
    Calls Tryd.prog 81 #[.string s, .string p] w fun e w' => e = .returned (.bool (Lib.hasPrefix s.data.toList p.data.toList)) ∧ w' = w := Any.stringslite_HasPrefix Tryd.lays206 s p w
def Tryd.lays99_ren : Go.Shelf.Ren := ⟨fun | 99 => 62 | 206 => 81 | n => n, fun | 9 => 9 | 4 => 4 | 3 => 3 | n => n, fun | n => n⟩
theorem Tryd.lays99 : Go.Proofs.Lays.n99 Tryd.prog Tryd.lays99_ren := {
  mixed := by kernel_rfl
  f99 := Tryd.func62.trans (congrArg some (by kernel_rfl))
  f206 := Tryd.func81.trans (congrArg some (by kernel_rfl))
  t3 := Tryd.underlying3
  a3 := Tryd.isAgg3
  z3 := Tryd.sizeOf3
  v3 := Tryd.zeroValue3
  t4 := Tryd.underlying4
  a4 := Tryd.isAgg4
  z4 := Tryd.sizeOf4
  v4 := Tryd.zeroValue4
  t9 := Tryd.underlying9
  a9 := Tryd.isAgg9
  z9 := Tryd.sizeOf9
  v9 := Tryd.zeroValue9 }
open Go.RowKit Go.Lib in
/-- strings.HasPrefix: "HasPrefix reports whether the string s begins with prefix.": IT RETURNS 'Lib.hasPrefix s prefix'; the world is as it was. (LAID: no walk: one application.) -/
theorem Tryd.strings_HasPrefix (s p : ByteArray) (w : World) :
    Calls Tryd.prog 62 #[.string s, .string p] w fun e w' => e = .returned (.bool (Lib.hasPrefix s.data.toList p.data.toList)) ∧ w' = w := Any.strings_HasPrefix Tryd.lays99 s p w
open Go.RowKit Go.Lib in
/-- strings.Count at whatever sep that is not empty: the two roads under one statement. (LAID: no walk: one application.) -/
theorem Tryd.strings_Count_any (s sep : ByteArray) (m : Int) (w : World) (hs : s.size < 4294967281) (hm : w.cell? ⟨0, 0, none⟩ = some (.int .i64 m)) (h1 : 1 ≤ sep.size) :
    Calls Tryd.prog 58 #[.string s, .string sep] w fun e w' => e = .returned (.int .i64 (Lib.countB s sep)) ∧ w' = w := Any.strings_Count_any Tryd.lays138 s sep m w hs hm h1
def Tryd.lays197_ren : Go.Shelf.Ren := ⟨fun | 197 => 96 | 260 => 103 | n => n, fun | 9 => 9 | 21 => 21 | 3 => 3 | 4 => 4 | 5 => 5 | 105 => 119 | 119 => 125 | 0 => 0 | 46 => 81 | 139 => 128 | 138 => 127 | n => n, fun | 3 => 1 | 4 => 2 | n => n⟩
theorem Tryd.lays197 : Go.Proofs.Lays.n197 Tryd.prog Tryd.lays197_ren := {
  mixed := by kernel_rfl
  f197 := Tryd.func96.trans (congrArg some (by kernel_rfl))
  f260 := Tryd.func103.trans (congrArg some (by kernel_rfl))
  t0 := Tryd.underlying0
  a0 := Tryd.isAgg0
  z0 := Tryd.sizeOf0
  v0 := Tryd.zeroValue0
  t3 := Tryd.underlying3
  a3 := Tryd.isAgg3
  z3 := Tryd.sizeOf3
  v3 := Tryd.zeroValue3
  t4 := Tryd.underlying4
  a4 := Tryd.isAgg4
  z4 := Tryd.sizeOf4
  v4 := Tryd.zeroValue4
  t5 := Tryd.underlying5
  a5 := Tryd.isAgg5
  z5 := Tryd.sizeOf5
  v5 := Tryd.zeroValue5
  t9 := Tryd.underlying9
  a9 := Tryd.isAgg9
  z9 := Tryd.sizeOf9
  v9 := Tryd.zeroValue9
  t21 := Tryd.underlying21
  a21 := Tryd.isAgg21
  z21 := Tryd.sizeOf21
  v21 := Tryd.zeroValue21
  t46 := Tryd.underlying81
  a46 := Tryd.isAgg81
  z46 := Tryd.sizeOf81
  v46 := Tryd.zeroValue81
  t105 := Tryd.underlying119
  a105 := Tryd.isAgg119
  z105 := Tryd.sizeOf119
  v105 := Tryd.zeroValue119
  t119 := Tryd.underlying125
  a119 := Tryd.isAgg125
  z119 := Tryd.sizeOf125
  t138 := Tryd.underlying127
  a138 := Tryd.isAgg127
  z138 := Tryd.sizeOf127
  v138 := Tryd.zeroValue127
  t139 := Tryd.underlying128
  a139 := Tryd.isAgg128
  z139 := Tryd.sizeOf128
  v139 := Tryd.zeroValue128
  g3 := by kernel_rfl
  g4 := by kernel_rfl }
open Go.RowKit Go.Lib in
/-- unicode/utf8.DecodeRuneInString: "DecodeRuneInString is like DecodeRune but its input is a string.": ("DecodeRune unpacks the first UTF-8 encoding in p and returns the rune and its width in bytes."): WHERE s BEGINS WITH AN ASCII BYTE x: (x, 1). (LAID: no walk: one application.) -/
theorem Tryd.utf8_DecodeRuneInString_ascii (s : ByteArray) (x : UInt8) (w : World) (h0 : s.data.toList[0]? = some x) (hx : x.toNat < 128) :
    Calls Tryd.prog 96 #[.string s] w fun e w' => e = .returned (.tuple #[.int .i32 x.toNat, .int .i64 1]) ∧ w' = w := Any.utf8_DecodeRuneInString_ascii Tryd.lays197 s x w h0 hx
def Tryd.lays152_ren : Go.Shelf.Ren := ⟨fun | 152 => 104 | 137 => 108 | 119 => 109 | 224 => 101 | 225 => 100 | 217 => 99 | 266 => 106 | n => n, fun | 9 => 9 | 21 => 21 | 3 => 3 | 4 => 4 | 5 => 5 | 0 => 0 | 46 => 81 | n => n, fun | n => n⟩
theorem Tryd.lays152 : Go.Proofs.Lays.n152 Tryd.prog Tryd.lays152_ren := {
  mixed := by kernel_rfl
  f119 := Tryd.func109.trans (congrArg some (by kernel_rfl))
  f137 := Tryd.func108.trans (congrArg some (by kernel_rfl))
  f152 := Tryd.func104.trans (congrArg some (by kernel_rfl))
  f217 := Tryd.func99.trans (congrArg some (by kernel_rfl))
  f224 := Tryd.func101.trans (congrArg some (by kernel_rfl))
  f225 := Tryd.func100.trans (congrArg some (by kernel_rfl))
  f266 := Tryd.func106.trans (congrArg some (by kernel_rfl))
  t0 := Tryd.underlying0
  a0 := Tryd.isAgg0
  z0 := Tryd.sizeOf0
  v0 := Tryd.zeroValue0
  t3 := Tryd.underlying3
  a3 := Tryd.isAgg3
  z3 := Tryd.sizeOf3
  v3 := Tryd.zeroValue3
  t4 := Tryd.underlying4
  a4 := Tryd.isAgg4
  z4 := Tryd.sizeOf4
  v4 := Tryd.zeroValue4
  t5 := Tryd.underlying5
  a5 := Tryd.isAgg5
  z5 := Tryd.sizeOf5
  v5 := Tryd.zeroValue5
  t9 := Tryd.underlying9
  a9 := Tryd.isAgg9
  z9 := Tryd.sizeOf9
  v9 := Tryd.zeroValue9
  t21 := Tryd.underlying21
  a21 := Tryd.isAgg21
  z21 := Tryd.sizeOf21
  v21 := Tryd.zeroValue21
  t46 := Tryd.underlying81
  a46 := Tryd.isAgg81
  z46 := Tryd.sizeOf81
  v46 := Tryd.zeroValue81 }
open Go.RowKit Go.Lib in
theorem Tryd.strings_IndexRune_ascii (s : ByteArray) (r : Int) (w : World) (h0 : 0 ≤ r) (h1 : r < 128) :
    Calls Tryd.prog 104 #[.string s, .int .i32 r] w fun e w' => e = .returned (.int .i64 (Lib.indexByte s.data.toList r.toNat.toUInt8)) ∧ w' = w := Any.strings_IndexRune_ascii Tryd.lays152 s r w h0 h1
def Tryd.lays151_ren : Go.Shelf.Ren := ⟨fun | 151 => 97 | 152 => 104 | 137 => 108 | 119 => 109 | 224 => 101 | 225 => 100 | 217 => 99 | 266 => 106 | n => n, fun | 9 => 9 | 21 => 21 | 4 => 4 | 3 => 3 | 5 => 5 | 0 => 0 | 46 => 81 | n => n, fun | n => n⟩
theorem Tryd.lays151 : Go.Proofs.Lays.n151 Tryd.prog Tryd.lays151_ren := {
  mixed := by kernel_rfl
  f119 := Tryd.func109.trans (congrArg some (by kernel_rfl))
  f137 := Tryd.func108.trans (congrArg some (by kernel_rfl))
  f151 := Tryd.func97.trans (congrArg some (by kernel_rfl))
  f152 := Tryd.func104.trans (congrArg some (by kernel_rfl))
  f217 := Tryd.func99.trans (congrArg some (by kernel_rfl))
  f224 := Tryd.func101.trans (congrArg some (by kernel_rfl))
  f225 := Tryd.func100.trans (congrArg some (by kernel_rfl))
  f266 := Tryd.func106.trans (congrArg some (by kernel_rfl))
  t0 := Tryd.underlying0
  a0 := Tryd.isAgg0
  z0 := Tryd.sizeOf0
  v0 := Tryd.zeroValue0
  t3 := Tryd.underlying3
  a3 := Tryd.isAgg3
  z3 := Tryd.sizeOf3
  v3 := Tryd.zeroValue3
  t4 := Tryd.underlying4
  a4 := Tryd.isAgg4
  z4 := Tryd.sizeOf4
  v4 := Tryd.zeroValue4
  t5 := Tryd.underlying5
  a5 := Tryd.isAgg5
  z5 := Tryd.sizeOf5
  v5 := Tryd.zeroValue5
  t9 := Tryd.underlying9
  a9 := Tryd.isAgg9
  z9 := Tryd.sizeOf9
  v9 := Tryd.zeroValue9
  t21 := Tryd.underlying21
  a21 := Tryd.isAgg21
  z21 := Tryd.sizeOf21
  v21 := Tryd.zeroValue21
  t46 := Tryd.underlying81
  a46 := Tryd.isAgg81
  z46 := Tryd.sizeOf81
  v46 := Tryd.zeroValue81 }
open Go.RowKit Go.Lib in
theorem Tryd.strings_ContainsRune_ascii (s : ByteArray) (r : Int) (w : World) (h0 : 0 ≤ r) (h1 : r < 128) :
    Calls Tryd.prog 97 #[.string s, .int .i32 r] w fun e w' => e = .returned (.bool (decide (0 ≤ Lib.indexByte s.data.toList r.toNat.toUInt8))) ∧ w' = w := Any.strings_ContainsRune_ascii Tryd.lays151 s r w h0 h1
open Go.RowKit Go.Lib in
theorem Tryd.utf8_RuneCountInString_ascii (s : ByteArray) (w : World) (hs : s.size < 4294967281) (hascii : ∀ (j : Nat) b, s.data.toList[j]? = some b → b.toNat < 128) :
    Calls Tryd.prog 73 #[.string s] w fun e w' => e = .returned (.int .i64 s.size) ∧ w' = w.iter s s.size := Any.utf8_RuneCountInString_ascii Tryd.lays195 s w hs hascii
def Tryd.lays227_ren : Go.Shelf.Ren := ⟨fun | 227 => 87 | n => n, fun | 9 => 9 | 116 => 110 | 4 => 4 | 0 => 0 | 3 => 3 | 5 => 5 | n => n, fun | n => n⟩
theorem Tryd.lays227 : Go.Proofs.Lays.n227 Tryd.prog Tryd.lays227_ren := {
  mixed := by kernel_rfl
  f227 := Tryd.func87.trans (congrArg some (by kernel_rfl))
  t0 := Tryd.underlying0
  a0 := Tryd.isAgg0
  z0 := Tryd.sizeOf0
  v0 := Tryd.zeroValue0
  t3 := Tryd.underlying3
  a3 := Tryd.isAgg3
  z3 := Tryd.sizeOf3
  v3 := Tryd.zeroValue3
  t4 := Tryd.underlying4
  a4 := Tryd.isAgg4
  z4 := Tryd.sizeOf4
  v4 := Tryd.zeroValue4
  t5 := Tryd.underlying5
  a5 := Tryd.isAgg5
  z5 := Tryd.sizeOf5
  v5 := Tryd.zeroValue5
  t9 := Tryd.underlying9
  a9 := Tryd.isAgg9
  z9 := Tryd.sizeOf9
  v9 := Tryd.zeroValue9
  t116 := Tryd.underlying110
  a116 := Tryd.isAgg110
  z116 := Tryd.sizeOf110 }
open Go.RowKit Go.Lib in
theorem Tryd.strings_makeASCIISet (hv116 : ∀ w, (zeroValue 110).run Tryd.prog w = .ok (.agg (Array.replicate 256 (.bool false))) w) (chars : ByteArray) (w : World) (hs : chars.size < 4294967281) (hascii : ∀ (j : Nat) b, chars.data.toList[j]? = some b → b.toNat < 128) :
    Calls Tryd.prog 87 #[.string chars] w fun e w' => e = .returned (.tuple #[.agg (Lib.setCells chars.data.toList), .bool true]) ∧ w' = w.alloc (.cells (Lib.setCells chars.data.toList) 110) := Any.strings_makeASCIISet Tryd.lays227 hv116 (by kernel_rfl) chars w hs hascii
def Tryd.lays228_ren : Go.Shelf.Ren := ⟨fun | 228 => 95 | n => n, fun | 124 => 114 | 5 => 5 | 4 => 4 | 0 => 0 | 116 => 110 | n => n, fun | n => n⟩
theorem Tryd.lays228 : Go.Proofs.Lays.n228 Tryd.prog Tryd.lays228_ren := {
  mixed := by kernel_rfl
  f228 := Tryd.func95.trans (congrArg some (by kernel_rfl))
  t0 := Tryd.underlying0
  a0 := Tryd.isAgg0
  z0 := Tryd.sizeOf0
  v0 := Tryd.zeroValue0
  t4 := Tryd.underlying4
  a4 := Tryd.isAgg4
  z4 := Tryd.sizeOf4
  v4 := Tryd.zeroValue4
  t5 := Tryd.underlying5
  a5 := Tryd.isAgg5
  z5 := Tryd.sizeOf5
  v5 := Tryd.zeroValue5
  t116 := Tryd.underlying110
  a116 := Tryd.isAgg110
  z116 := Tryd.sizeOf110
  t124 := Tryd.underlying114
  a124 := Tryd.isAgg114
  z124 := Tryd.sizeOf114
  v124 := Tryd.zeroValue114 }
open Go.RowKit Go.Lib in
/-- '(as *asciiSet) contains(c)': 'as[c]': the set lies at block b, whole. (LAID: no walk: one application.) -/
theorem Tryd.asciiSet_contains (b : Nat) (x : UInt8) (v : Bool) (w : World) (hc : w.cell? ⟨b, x.toNat, none⟩ = some (.bool v)) :
    Calls Tryd.prog 95 #[.pointer (some ⟨b, 0, none⟩), .int .u8 x.toNat] w fun e w' => e = .returned (.bool v) ∧ w' = w := Any.asciiSet_contains Tryd.lays228 b x v w hc
def Tryd.lays264_ren : Go.Shelf.Ren := ⟨fun | 264 => 80 | n => n, fun | 53 => 104 | 46 => 81 | n => n, fun | n => n⟩
theorem Tryd.lays264 : Go.Proofs.Lays.n264 Tryd.prog Tryd.lays264_ren := {
  mixed := by kernel_rfl
  f264 := Tryd.func80.trans (congrArg some (by kernel_rfl))
  t46 := Tryd.underlying81
  a46 := Tryd.isAgg81
  z46 := Tryd.sizeOf81
  v46 := Tryd.zeroValue81
  t53 := Tryd.underlying104
  a53 := Tryd.isAgg104
  z53 := Tryd.sizeOf104
  v53 := Tryd.zeroValue104 }
open Go.RowKit Go.Lib in
theorem Tryd.bits_Mul64 (x y : Nat) (hx : x < 18446744073709551616) (hy : y < 18446744073709551616) (w : World) :
    Calls Tryd.prog 80 #[.int .u64 x, .int .u64 y] w fun e w' => e = .returned (.tuple #[.int .u64 ((x * y / 18446744073709551616 : Nat) : Int), .int .u64 ((x * y % 18446744073709551616 : Nat) : Int)]) ∧ w' = w := Any.bits_Mul64 Tryd.lays264 x y hx hy w
def Tryd.lays212_ren : Go.Shelf.Ren := ⟨fun | 212 => 61 | 263 => 79 | 264 => 80 | n => n, fun | 46 => 81 | 51 => 101 | 146 => 102 | 53 => 104 | 148 => 105 | n => n, fun | n => n⟩
theorem Tryd.lays212 : Go.Proofs.Lays.n212 Tryd.prog Tryd.lays212_ren := {
  mixed := by kernel_rfl
  f212 := Tryd.func61.trans (congrArg some (by kernel_rfl))
  f263 := Tryd.func79.trans (congrArg some (by kernel_rfl))
  f264 := Tryd.func80.trans (congrArg some (by kernel_rfl))
  t46 := Tryd.underlying81
  a46 := Tryd.isAgg81
  z46 := Tryd.sizeOf81
  v46 := Tryd.zeroValue81
  t51 := Tryd.underlying101
  a51 := Tryd.isAgg101
  z51 := Tryd.sizeOf101
  v51 := Tryd.zeroValue101
  t53 := Tryd.underlying104
  a53 := Tryd.isAgg104
  z53 := Tryd.sizeOf104
  v53 := Tryd.zeroValue104
  t146 := Tryd.underlying102
  a146 := Tryd.isAgg102
  z146 := Tryd.sizeOf102
  v146 := Tryd.zeroValue102
  t148 := Tryd.underlying105
  a148 := Tryd.isAgg105
  z148 := Tryd.sizeOf105
  v148 := Tryd.zeroValue105 }
open Go.RowKit Go.Lib in
/-- math/bits.Mul: "Mul returns the full-width product of x and y": on a machine of 64 bits: Mul64's. (LAID: no walk: one application.) -/
theorem Tryd.bits_Mul (x y : Nat) (hx : x < 18446744073709551616) (hy : y < 18446744073709551616) (w : World) :
    Calls Tryd.prog 61 #[.int .u64 x, .int .u64 y] w fun e w' => e = .returned (.tuple #[.int .u64 ((x * y / 18446744073709551616 : Nat) : Int), .int .u64 ((x * y % 18446744073709551616 : Nat) : Int)]) ∧ w' = w := Any.bits_Mul Tryd.lays212 x y hx hy w
def Tryd.lays105_ren : Go.Shelf.Ren := ⟨fun | 105 => 42 | 212 => 61 | 99 => 62 | 165 => 63 | 166 => 64 | 170 => 65 | 169 => 66 | 263 => 79 | 264 => 80 | 206 => 81 | 240 => 82 | 241 => 83 | 276 => 93 | 277 => 94 | n => n, fun | 9 => 9 | 3 => 3 | 4 => 4 | 20 => 20 | 0 => 0 | 46 => 81 | 109 => 82 | 5 => 5 | 72 => 86 | 76 => 90 | 51 => 101 | 146 => 102 | 53 => 104 | 148 => 105 | 70 => 84 | 37 => 66 | 75 => 89 | 127 => 107 | 164 => 115 | 80 => 93 | n => n, fun | n => n⟩
theorem Tryd.lays105 : Go.Proofs.Lays.n105 Tryd.prog Tryd.lays105_ren := {
  mixed := by kernel_rfl
  f99 := Tryd.func62.trans (congrArg some (by kernel_rfl))
  f105 := Tryd.func42.trans (congrArg some (by kernel_rfl))
  f165 := Tryd.func63.trans (congrArg some (by kernel_rfl))
  f166 := Tryd.func64.trans (congrArg some (by kernel_rfl))
  f169 := Tryd.func66.trans (congrArg some (by kernel_rfl))
  f170 := Tryd.func65.trans (congrArg some (by kernel_rfl))
  f206 := Tryd.func81.trans (congrArg some (by kernel_rfl))
  f212 := Tryd.func61.trans (congrArg some (by kernel_rfl))
  f240 := Tryd.func82.trans (congrArg some (by kernel_rfl))
  f241 := Tryd.func83.trans (congrArg some (by kernel_rfl))
  f263 := Tryd.func79.trans (congrArg some (by kernel_rfl))
  f264 := Tryd.func80.trans (congrArg some (by kernel_rfl))
  f276 := Tryd.func93.trans (congrArg some (by kernel_rfl))
  f277 := Tryd.func94.trans (congrArg some (by kernel_rfl))
  t0 := Tryd.underlying0
  a0 := Tryd.isAgg0
  z0 := Tryd.sizeOf0
  v0 := Tryd.zeroValue0
  t3 := Tryd.underlying3
  a3 := Tryd.isAgg3
  z3 := Tryd.sizeOf3
  v3 := Tryd.zeroValue3
  t4 := Tryd.underlying4
  a4 := Tryd.isAgg4
  z4 := Tryd.sizeOf4
  v4 := Tryd.zeroValue4
  t5 := Tryd.underlying5
  a5 := Tryd.isAgg5
  z5 := Tryd.sizeOf5
  v5 := Tryd.zeroValue5
  t9 := Tryd.underlying9
  a9 := Tryd.isAgg9
  z9 := Tryd.sizeOf9
  v9 := Tryd.zeroValue9
  t20 := Tryd.underlying20
  a20 := Tryd.isAgg20
  z20 := Tryd.sizeOf20
  v20 := Tryd.zeroValue20
  t37 := Tryd.underlying66
  a37 := Tryd.isAgg66
  z37 := Tryd.sizeOf66
  v37 := Tryd.zeroValue66
  t46 := Tryd.underlying81
  a46 := Tryd.isAgg81
  z46 := Tryd.sizeOf81
  v46 := Tryd.zeroValue81
  t51 := Tryd.underlying101
  a51 := Tryd.isAgg101
  z51 := Tryd.sizeOf101
  v51 := Tryd.zeroValue101
  t53 := Tryd.underlying104
  a53 := Tryd.isAgg104
  z53 := Tryd.sizeOf104
  v53 := Tryd.zeroValue104
  t70 := Tryd.underlying84
  a70 := Tryd.isAgg84
  z70 := Tryd.sizeOf84
  v70 := Tryd.zeroValue84
  t72 := Tryd.underlying86
  a72 := Tryd.isAgg86
  z72 := Tryd.sizeOf86
  v72 := Tryd.zeroValue86
  t75 := Tryd.underlying89
  a75 := Tryd.isAgg89
  z75 := Tryd.sizeOf89
  v75 := Tryd.zeroValue89
  t76 := Tryd.underlying90
  a76 := Tryd.isAgg90
  z76 := Tryd.sizeOf90
  v76 := Tryd.zeroValue90
  t109 := Tryd.underlying82
  a109 := Tryd.isAgg82
  z109 := Tryd.sizeOf82
  v109 := Tryd.zeroValue82
  t127 := Tryd.underlying107
  a127 := Tryd.isAgg107
  z127 := Tryd.sizeOf107
  v127 := Tryd.zeroValue107
  t146 := Tryd.underlying102
  a146 := Tryd.isAgg102
  z146 := Tryd.sizeOf102
  v146 := Tryd.zeroValue102
  t148 := Tryd.underlying105
  a148 := Tryd.isAgg105
  z148 := Tryd.sizeOf105
  v148 := Tryd.zeroValue105
  t164 := Tryd.underlying115
  a164 := Tryd.isAgg115
  z164 := Tryd.sizeOf115
  v164 := Tryd.zeroValue115 }
theorem Tryd.Builder_Extra_105 : Builder.Extra Tryd.prog Tryd.lays105_ren := {
  sizeBuilder := by kernel_rfl
  liesBuilder := by kernel_rfl
  t5 := Tryd.underlying5
  a5 := Tryd.isAgg5
  z5 := Tryd.sizeOf5
  v5 := Tryd.zeroValue5
  infoByte := by kernel_rfl
  cellsByte := by kernel_rfl
  sizeByte := by kernel_rfl
  neB5 := by decide }
open Go.RowKit Go.Lib in
/-- THE MAIN CASE: at least two copies of a string that is not empty. (LAID: no walk: one application.) -/
theorem Tryd.strings_Repeat_main (s : ByteArray) (c : Nat) (w : World) (hc2 : 2 ≤ c) (hc : c ≤ 9223372036854775807) (hlen : s.size * c ≤ 140737488355328) (h0 : 0 < s.size) :
    Calls Tryd.prog 42 #[.string s, .int .i64 c] w fun e w' => e = .returned (.string ⟨(Lib.repeatL s.data.toList c).toArray⟩) ∧ Below w.heap.size w w' := Any.strings_Repeat_main Tryd.lays105 Tryd.Builder_Extra_105 s c w hc2 hc hlen h0
open Go.RowKit Go.Lib in
theorem Tryd.strings_Repeat_zero (s : ByteArray) (w : World) :
    Calls Tryd.prog 42 #[.string s, .int .i64 0] w fun e w' => e = .returned (.string ⟨#[]⟩) ∧ w' = w := Any.strings_Repeat_zero Tryd.lays105 s w
open Go.RowKit Go.Lib in
theorem Tryd.strings_Repeat_one (s : ByteArray) (w : World) :
    Calls Tryd.prog 42 #[.string s, .int .i64 1] w fun e w' => e = .returned (.string s) ∧ w' = w := Any.strings_Repeat_one Tryd.lays105 s w
open Go.RowKit Go.Lib in
/-- Copies of the empty string. (LAID: no walk: one application.) -/
theorem Tryd.strings_Repeat_empty (s : ByteArray) (c : Nat) (w : World) (hc2 : 2 ≤ c) (hc : c ≤ 9223372036854775807) (h0 : s.size = 0) :
    Calls Tryd.prog 42 #[.string s, .int .i64 c] w fun e w' => e = .returned (.string ⟨#[]⟩) ∧ w' = w := Any.strings_Repeat_empty Tryd.lays105 s c w hc2 hc h0
open Go.RowKit Go.Lib in
/-- count < 0: "It panics if count is negative". (LAID: no walk: one application.) -/
theorem Tryd.strings_Repeat_negative (s : ByteArray) (c : Int) (w : World) (hc : c < 0) :
    Calls Tryd.prog 42 #[.string s, .int .i64 c] w fun e w' => e = .panicked [{ v := repeatPanic Tryd.lays105_ren "strings: negative Repeat count", recovered := false }] ∧ w' = w := Any.strings_Repeat_negative Tryd.lays105 s c w hc
open Go.RowKit Go.Lib in
/-- len(s) * count is no int: ".. or if the result of (len(s) * count) overflows". (LAID: no walk: one application.) -/
theorem Tryd.strings_Repeat_overflow (s : ByteArray) (c : Nat) (w : World) (hc : c ≤ 9223372036854775807) (hs : s.size ≤ 9223372036854775807) (hbig : 9223372036854775807 < s.size * c) :
    Calls Tryd.prog 42 #[.string s, .int .i64 c] w fun e w' => e = .panicked [{ v := repeatPanic Tryd.lays105_ren "strings: Repeat output length overflow", recovered := false }] ∧ w' = w := Any.strings_Repeat_overflow Tryd.lays105 s c w hc hs hbig
open Go.RowKit Go.Lib in
/-- **strings.Repeat: count ≥ 0, the result within one allocation: count copies of s.** (LAID: no walk: one application.) -/
theorem Tryd.strings_Repeat (s : ByteArray) (c : Nat) (w : World) (hc : c ≤ 9223372036854775807) (hlen : s.size * c ≤ 140737488355328) :
    Calls Tryd.prog 42 #[.string s, .int .i64 c] w fun e w' => e = .returned (.string ⟨(Lib.repeatL s.data.toList c).toArray⟩) ∧ Below w.heap.size w w' := Any.strings_Repeat Tryd.lays105 Tryd.Builder_Extra_105 s c w hc hlen
def Tryd.lays260_ren : Go.Shelf.Ren := ⟨fun | 260 => 103 | n => n, fun | 9 => 9 | 21 => 21 | 3 => 3 | 4 => 4 | 5 => 5 | 119 => 125 | 0 => 0 | 46 => 81 | 139 => 128 | 138 => 127 | n => n, fun | 3 => 1 | 4 => 2 | n => n⟩
theorem Tryd.lays260 : Go.Proofs.Lays.n260 Tryd.prog Tryd.lays260_ren := {
  mixed := by kernel_rfl
  f260 := Tryd.func103.trans (congrArg some (by kernel_rfl))
  t0 := Tryd.underlying0
  a0 := Tryd.isAgg0
  z0 := Tryd.sizeOf0
  v0 := Tryd.zeroValue0
  t3 := Tryd.underlying3
  a3 := Tryd.isAgg3
  z3 := Tryd.sizeOf3
  v3 := Tryd.zeroValue3
  t4 := Tryd.underlying4
  a4 := Tryd.isAgg4
  z4 := Tryd.sizeOf4
  v4 := Tryd.zeroValue4
  t5 := Tryd.underlying5
  a5 := Tryd.isAgg5
  z5 := Tryd.sizeOf5
  v5 := Tryd.zeroValue5
  t9 := Tryd.underlying9
  a9 := Tryd.isAgg9
  z9 := Tryd.sizeOf9
  v9 := Tryd.zeroValue9
  t21 := Tryd.underlying21
  a21 := Tryd.isAgg21
  z21 := Tryd.sizeOf21
  v21 := Tryd.zeroValue21
  t46 := Tryd.underlying81
  a46 := Tryd.isAgg81
  z46 := Tryd.sizeOf81
  v46 := Tryd.zeroValue81
  t119 := Tryd.underlying125
  a119 := Tryd.isAgg125
  z119 := Tryd.sizeOf125
  t138 := Tryd.underlying127
  a138 := Tryd.isAgg127
  z138 := Tryd.sizeOf127
  v138 := Tryd.zeroValue127
  t139 := Tryd.underlying128
  a139 := Tryd.isAgg128
  z139 := Tryd.sizeOf128
  v139 := Tryd.zeroValue128
  g3 := by kernel_rfl
  g4 := by kernel_rfl }
open Go.RowKit Go.Lib in
theorem Tryd.utf8_decodeRuneInStringSlow (s : ByteArray) (w : World) (hT : Lib.Utf8Tabs 1 2 w) :
    Calls Tryd.prog 103 #[.string s] w fun e w' => e = .returned (.tuple #[.int .i32 (Lib.decodeGo s).1, .int .i64 (Lib.decodeGo s).2]) ∧ Below w.heap.size w w' := Any.utf8_decodeRuneInStringSlow Tryd.lays260 s w hT
open Go.RowKit Go.Lib in
/-- **unicode/utf8.DecodeRuneInString AT EVERY STRING.** (LAID: no walk: one application.) -/
theorem Tryd.utf8_DecodeRuneInString (s : ByteArray) (w : World) (hT : Lib.Utf8Tabs 1 2 w) :
    Calls Tryd.prog 96 #[.string s] w fun e w' => e = .returned (.tuple #[.int .i32 (Lib.decodeGo s).1, .int .i64 (Lib.decodeGo s).2]) ∧ Below w.heap.size w w' := Any.utf8_DecodeRuneInString Tryd.lays197 s w hT
def Tryd.lays271_ren : Go.Shelf.Ren := ⟨fun | 271 => 98 | 120 => 105 | 197 => 96 | 260 => 103 | n => n, fun | 9 => 9 | 21 => 21 | 3 => 3 | 4 => 4 | 5 => 5 | 105 => 119 | 119 => 125 | 0 => 0 | 46 => 81 | 139 => 128 | 138 => 127 | n => n, fun | 3 => 1 | 4 => 2 | n => n⟩
theorem Tryd.lays271 : Go.Proofs.Lays.n271 Tryd.prog Tryd.lays271_ren := {
  mixed := by kernel_rfl
  f120 := Tryd.func105.trans (congrArg some (by kernel_rfl))
  f197 := Tryd.func96.trans (congrArg some (by kernel_rfl))
  f260 := Tryd.func103.trans (congrArg some (by kernel_rfl))
  f271 := Tryd.func98.trans (congrArg some (by kernel_rfl))
  t0 := Tryd.underlying0
  a0 := Tryd.isAgg0
  z0 := Tryd.sizeOf0
  v0 := Tryd.zeroValue0
  t3 := Tryd.underlying3
  a3 := Tryd.isAgg3
  z3 := Tryd.sizeOf3
  v3 := Tryd.zeroValue3
  t4 := Tryd.underlying4
  a4 := Tryd.isAgg4
  z4 := Tryd.sizeOf4
  v4 := Tryd.zeroValue4
  t5 := Tryd.underlying5
  a5 := Tryd.isAgg5
  z5 := Tryd.sizeOf5
  v5 := Tryd.zeroValue5
  t9 := Tryd.underlying9
  a9 := Tryd.isAgg9
  z9 := Tryd.sizeOf9
  v9 := Tryd.zeroValue9
  t21 := Tryd.underlying21
  a21 := Tryd.isAgg21
  z21 := Tryd.sizeOf21
  v21 := Tryd.zeroValue21
  t46 := Tryd.underlying81
  a46 := Tryd.isAgg81
  z46 := Tryd.sizeOf81
  v46 := Tryd.zeroValue81
  t105 := Tryd.underlying119
  a105 := Tryd.isAgg119
  z105 := Tryd.sizeOf119
  v105 := Tryd.zeroValue119
  t119 := Tryd.underlying125
  a119 := Tryd.isAgg125
  z119 := Tryd.sizeOf125
  t138 := Tryd.underlying127
  a138 := Tryd.isAgg127
  z138 := Tryd.sizeOf127
  v138 := Tryd.zeroValue127
  t139 := Tryd.underlying128
  a139 := Tryd.isAgg128
  z139 := Tryd.sizeOf128
  v139 := Tryd.zeroValue128
  g3 := by kernel_rfl
  g4 := by kernel_rfl }
open Go.RowKit Go.Lib in
/-- **unicode/utf8.DecodeLastRuneInString AT EVERY STRING.** (LAID: no walk: one application.) -/
theorem Tryd.utf8_DecodeLastRuneInString (s : ByteArray) (w : World) (hs : s.size ≤ 9223372036854775807) (hT : Lib.Utf8Tabs 1 2 w) :
    Calls Tryd.prog 98 #[.string s] w fun e w' => e = .returned (.tuple #[.int .i32 (Lib.decodeLastL s.data.toList).1, .int .i64 (Lib.decodeLastL s.data.toList).2]) ∧ Below w.heap.size w w' := Any.utf8_DecodeLastRuneInString Tryd.lays271 s w hs hT
end Go.Proofs

/- THE SEAT's contracts of strings, out of the shelf. -/
namespace Go.Proofs.YthoibdfcaejgbaaDoor.Ab
open Go Go.RowKit Go.Shelf

section
variable {m : Emb} {args : Array Value}
theorem rel_two {x y : AV} (h : RelL F m [x, y] args.toList) : ∃ u v, args = #[u, v] ∧ RelV F m x u ∧ RelV F m y v := by
  simp only [RelL] at h
  obtain ⟨u, l, e1, h1, v, l2, rfl, h2, rfl⟩ := h
  exact ⟨u, v, by rw [← Array.toArray_toList (xs := args), e1], h1, h2⟩
end

theorem x_Count : ExtAt Go.Proofs.Tryd.prog F 131 xCount := by
  intro xs r hr
  unfold xCount at hr
  split at hr
  · rename_i s c
    cases hr
    refine ⟨by decide +kernel, fun m w args hx => ?_⟩
    obtain ⟨u, v, rfl, h1, h2⟩ := rel_two hx
    rw [rel_str h1, rel_str h2]
    refine (Tryd.strings_Count_one ⟨s.toArray⟩ c w).mono ?_
    rintro e w' ⟨rfl, rfl⟩
    exact ⟨_, rfl, by simp only [RelV], Below.refl _ _⟩
  · cases hr
theorem x_Contains : ExtAt Go.Proofs.Tryd.prog F 126 xContains := by
  intro xs r hr
  unfold xContains at hr
  split at hr
  · rename_i s c
    cases hr
    refine ⟨by decide +kernel, fun m w args hx => ?_⟩
    obtain ⟨u, v, rfl, h1, h2⟩ := rel_two hx
    rw [rel_str h1, rel_str h2]
    refine (Tryd.strings_Contains_one ⟨s.toArray⟩ c w).mono ?_
    rintro e w' ⟨rfl, rfl⟩
    exact ⟨_, rfl, by simp only [RelV], Below.refl _ _⟩
  · cases hr
theorem x_Index : ExtAt Go.Proofs.Tryd.prog F 194 xIndex := by
  intro xs r hr
  unfold xIndex at hr
  split at hr
  · rename_i s c
    cases hr
    refine ⟨by decide +kernel, fun m w args hx => ?_⟩
    obtain ⟨u, v, rfl, h1, h2⟩ := rel_two hx
    rw [rel_str h1, rel_str h2]
    refine (Tryd.strings_Index_one ⟨s.toArray⟩ c w).mono ?_
    rintro e w' ⟨rfl, rfl⟩
    exact ⟨_, rfl, by simp only [RelV], Below.refl _ _⟩
  · cases hr
theorem x_IndexByte : ExtAt Go.Proofs.Tryd.prog F 190 xIndexByte := by
  intro xs r hr
  unfold xIndexByte at hr
  split at hr
  · rename_i s c
    cases hr
    refine ⟨by decide +kernel, fun m w args hx => ?_⟩
    obtain ⟨u, v, rfl, h1, h2⟩ := rel_two hx
    rw [rel_str h1, rel_int h2]
    refine (Tryd.strings_IndexByte ⟨s.toArray⟩ c w).mono ?_
    rintro e w' ⟨rfl, rfl⟩
    exact ⟨_, rfl, by simp only [RelV], Below.refl _ _⟩
  · cases hr
theorem x_Trim : ExtAt Go.Proofs.Tryd.prog F 111 xTrim := by
  intro xs r hr
  unfold xTrim at hr
  split at hr
  · rename_i s c
    split at hr
    · rename_i hc
      obtain ⟨h1, h2, h3⟩ := hc
      cases hr
      refine ⟨by decide +kernel, fun m w args hx => ?_⟩
      obtain ⟨u, v, rfl, g1, g2⟩ := rel_two hx
      rw [rel_str g1, rel_str g2]
      have hsz : ∀ l : List UInt8, (⟨l.toArray⟩ : ByteArray).size = l.length := fun _ => rfl
      refine (Any.strings_Trim_laid Tryd.lays160 (by kernel_rfl) ⟨s.toArray⟩ ⟨c.toArray⟩ w (by rw [hsz]; omega) (by rw [hsz]; omega) ?_).mono ?_
      · intro j b hb
        have := List.all_eq_true.1 h3 b (List.mem_of_getElem? hb)
        simpa using this
      · rintro e w' ⟨rfl, hb⟩
        exact ⟨_, rfl, by simp only [RelV], hb⟩
    · cases hr
  · cases hr

theorem x_Repeat : ExtAt Go.Proofs.Tryd.prog F 123 xRepeat := by
  intro xs r hr
  unfold xRepeat at hr
  split at hr
  · rename_i s n
    split at hr
    · rename_i hc
      obtain ⟨h1, h2, h3⟩ := hc
      cases hr
      refine ⟨by decide +kernel, fun m w args hx => ?_⟩
      obtain ⟨u, v, rfl, g1, g2⟩ := rel_two hx
      obtain ⟨c, rfl⟩ : ∃ c : Nat, n = c := ⟨n.toNat, by omega⟩
      rw [rel_str g1, rel_int g2]
      have hsz : ∀ l : List UInt8, (⟨l.toArray⟩ : ByteArray).size = l.length := fun _ => rfl
      refine (Tryd.strings_Repeat ⟨s.toArray⟩ c w (by omega) (by rw [hsz]; simpa using h3)).mono ?_
      rintro e w' ⟨rfl, hb⟩
      exact ⟨_, rfl, by simp only [RelV, Int.toNat_natCast], hb⟩
    · cases hr
  · cases hr
theorem strs_rel {m : Emb} : ∀ {cs : List AV} {xs : List (List UInt8)} {vs : List Value}, strsOf cs = some xs → RelL F m cs vs → vs = xs.map fun s => Value.string ⟨s.toArray⟩
  | [], xs, vs, h, hr => by
    simp only [strsOf, Option.some.injEq] at h
    subst h
    simpa only [RelL, List.map_nil] using hr
  | .str s :: cs, xs, vs, h, hr => by
    simp only [strsOf, Option.map_eq_some_iff] at h
    obtain ⟨ys, hy, rfl⟩ := h
    simp only [RelL] at hr
    obtain ⟨v, vs', rfl, h1, h2⟩ := hr
    rw [rel_str h1, strs_rel hy h2]
    rfl
  | .int .. :: _, _, _, h, _ | .bool _ :: _, _, _, h, _ | .nilS :: _, _, _, h, _ | .empS :: _, _, _, h, _ | .slice .. :: _, _, _, h, _ | .nilP :: _, _, _, h, _ | .ptr .. :: _, _, _, h, _ | .nilM :: _, _, _, h, _ | .map _ :: _, _, _, h, _
  | .iter _ :: _, _, _, h, _ | .fn .. :: _, _, _, h, _ | .nilF :: _, _, _, h, _ | .agg _ :: _, _, _, h, _ | .tup _ :: _, _, _, h, _ | .nilI :: _, _, _, h, _ | .ifc :: _, _, _, h, _ | .undef :: _, _, _, h, _ => by simp [strsOf] at h
theorem xok : ExtOk Go.Proofs.Tryd.prog F E := by
  refine ext_ok ?_ ?_
  · intro x hx
    simp only [xtab, List.mem_cons, List.not_mem_nil, or_false] at hx
    rcases hx with rfl | rfl | rfl | rfl | rfl | rfl
    · exact x_Trim.h
    · exact x_IndexByte.h
    · exact x_Index.h
    · exact x_Contains.h
    · exact x_Count.h
    · exact x_Repeat.h
  · intro x hx
    simp only [ytab, List.mem_cons, List.not_mem_nil, or_false] at hx
    all_goals cases hx
/-- ALL OF IT: what the machine says, the program does. -/
theorem all_sound : ∀ n, Sound Go.Proofs.Tryd.prog F (evF T E n) := sound hT xok
end Go.Proofs.YthoibdfcaejgbaaDoor.Ab

/- RULES for the simplifier: reckoning through a body. What is still to come is hidden from it behind a tag. -/
namespace Go.Proofs.YthoibdfcaejgbaaDoor.Ab
open Go

inductive Tag {α : Sort _} (a : α) : Type
  | k

/-- A function's answer. -/
def S (f : Nat) (xs : List AV) (h : AH) (post : AV → AH → Prop) (_ : Tag post) : Prop := Spec T E f xs h post
def Cx (c : C) (e : Env) (h : AH) (R : X → Env → AH → Prop) (_ : Tag c) (_ : Tag R) : Prop := WC T E c e h R
def Rx (is : List I) (e : Env) (h : AH) (Q : Env → AH → Prop) (_ : Tag is) (_ : Tag Q) : Prop := WR T E is e h Q
def Ox (o : Option (AV × AH)) (K : AV → AH → Prop) (_ : Tag K) : Prop := WO o K
/-- A branch: not gone into before it is known. -/
def WB (v : AV) (K : Bool → Prop) (_ : Tag K) : Prop := match v with
  | .bool t => K t
  | _ => False
def WF (v : AV) (K : Nat → List AV → Prop) (_ : Tag K) : Prop := match v with
  | .fn f cap => K f cap
  | _ => False
def WI (t : Bool) (A B : Prop) (_ : Tag A) (_ : Tag B) : Prop := if t = true then A else B
abbrev k {α : Sort _} {a : α} : Tag a := Tag.k

theorem WB_true {K : Bool → Prop} : WB (.bool true) K k = K true := rfl
theorem WB_false {K : Bool → Prop} : WB (.bool false) K k = K false := rfl
theorem WI_true {A B : Prop} : WI true A B k k = A := by simp [WI]
theorem WI_false {A B : Prop} : WI false A B k k = B := by simp [WI]
theorem WF_fn {f : Nat} {cap : List AV} {K : Nat → List AV → Prop} : WF (.fn f cap) K k = K f cap := rfl
theorem beq_tt : (true == true) = true := rfl
theorem beq_ff : (false == false) = true := rfl
theorem beq_tf : (true == false) = false := rfl
theorem beq_ft : (false == true) = false := rfl
theorem WB_dec {p : Prop} [Decidable p] {K : Bool → Prop} (h1 : p → K true) (h2 : ¬ p → K false) : WB (.bool (decide p)) K k := by
  by_cases h : p
  · simp [h, WB]; exact h1 h
  · simp [h, WB]; exact h2 h
theorem WB_cases {b : Bool} {K : Bool → Prop} (h1 : b = true → K true) (h2 : b = false → K false) : WB (.bool b) K k := by
  cases b
  · exact h2 rfl
  · exact h1 rfl

section
variable {e : Env} {h : AH} {Q : Env → AH → Prop} {R : X → Env → AH → Prop}

theorem w_skip : Cx .skip e h R k k = R .normal e h := propext WC_skip
theorem w_ret : Cx .ret e h R k k = R .ret e h := propext WC_ret
theorem w_exit {i : Nat} : Cx (.exit i) e h R k k = R (.exit i) e h := propext WC_exit
theorem w_reg {is : List I} : Cx (.reg is) e h R k k = Rx is e h (R .normal) k k := propext WC_reg
theorem w_drw0 {is : List I} : Cx (.drw is []) e h R k k = Rx is e h (R .normal) k k := by
  have key : ∀ cf, evDraw cf is [] e h = evR cf is e h := fun cf => by
    unfold evDraw; rw [if_pos]; intro p hp; cases hp
  apply propext
  unfold Cx Rx WC WR
  simp only [evC, key]
  constructor
  · rintro ⟨n, x, e', h', hev, hq⟩
    simp only [Option.map_eq_some_iff, Prod.mk.injEq] at hev
    obtain ⟨⟨e1, h1⟩, hev, rfl, rfl, rfl⟩ := hev
    exact ⟨n, e1, h1, hev, hq⟩
  · rintro ⟨n, e', h', hev, hq⟩
    exact ⟨n, .normal, e', h', by rw [hev]; rfl, hq⟩
theorem w_kl {ts : List Nat} {c : C} : Cx (.kl ts c) e h R k k = Cx c (e.dels ts) h R k k := propext WC_kl
theorem w_seq {a b : C} : Cx (.seq a b) e h R k k = Cx a e h (then' (fun e' h' => Cx b e' h' R k k) R) k k := propext (WC_seq hE)
theorem w_blk {i : Nat} {c : C} : Cx (.blk i c) e h R k k = Cx c e h (inBlk i R) k k := propext WC_blk
theorem w_cond {x : Opd} {a b : C} : Cx (.cond x a b) e h R k k = WB (env e x) (fun t => WI t (Cx a e h R k k) (Cx b e h R k k) k k) k := by
  apply propext
  unfold Cx
  cases hx : env e x with
  | bool t => rw [WC_cond hx]; simp only [WB, WI]
  | _ =>
    simp only [WB, iff_false]
    rintro ⟨n, y, e', h', hev, _⟩
    simp [evC, hx] at hev
theorem w_loop {c : C} : Cx (.loop c) e h R k k = Cx c e h (then' (fun e' h' => Cx (.loop c) e' h' R k k) R) k k := propext (WC_loop hE)
theorem w_loopb {c d : C} (hd : d = c) : Cx (.loop c) e h R k k = Cx d e h (then' (fun e' h' => Cx (.loop c) e' h' R k k) R) k k := by subst hd; exact w_loop
theorem del_eq (e : Env) (t : Nat) : e.del t = e.filter fun x => x.1 != t := by
  induction e with
  | nil => rfl
  | cons x e ih =>
    obtain ⟨u, v⟩ := x
    simp only [Env.del, List.filter_cons, ih]
    by_cases h : u = t <;> simp [h]
theorem dels_eq : ∀ (ts : List Nat) (e : Env), e.dels ts = e.filter fun x => !ts.contains x.1
  | [], e => by
    simp only [Env.dels, List.contains_nil, Bool.not_false]
    exact (List.filter_eq_self.2 (fun _ _ => rfl)).symm
  | t :: ts, e => by
    rw [Env.dels, dels_eq ts, del_eq, List.filter_filter]
    congr 1
    funext x
    by_cases h : x.1 = t <;> simp [h]
theorem dels_dels (e : Env) (ts : List Nat) : (e.dels ts).dels ts = e.dels ts := by
  rw [dels_eq, dels_eq, List.filter_filter]; simp
/-- At a loop's head the dead slots go. -/
theorem w_loopn {c c' : C} {ts : List Nat} (hc : c = .kl ts c') : Cx (.loop c) e h R k k = Cx (.loop c) (e.dels ts) h R k k := by
  subst hc
  rw [w_loop, w_loop (e := e.dels ts), w_kl, w_kl, dels_dels]
theorem then_n {K : Env → AH → Prop} : then' K R .normal e h = K e h := rfl
theorem then_e {K : Env → AH → Prop} {i : Nat} : then' K R (.exit i) e h = R (.exit i) e h := rfl
theorem then_r {K : Env → AH → Prop} : then' K R .ret e h = R .ret e h := rfl
theorem blk_n {i : Nat} : inBlk i R .normal e h = R .normal e h := rfl
theorem blk_r {i : Nat} : inBlk i R .ret e h = R .ret e h := rfl
theorem blk_e {i j : Nat} : inBlk i R (.exit j) e h = WI (j == i) (R .normal e h) (R (.exit j) e h) k k := by simp [inBlk, WI]

theorem w_nil : Rx [] e h Q k k = Q e h := propext WR_nil
def WOp (d : Option Nat) (op : AOp) (is : List I) (e : Env) (h : AH) (Q : Env → AH → Prop) (_ : Tag is) (_ : Tag Q) : Prop := match op with
  | .call f xs => S f (xs.map (env e)) h (fun v h' => Rx is (put e d v) h' Q k k) k
  | .callv x xs => WF (env e x) (fun f cap => S f (xs.map (env e) ++ cap) h (fun v h' => Rx is (put e d v) h' Q k k) k) k
  | op => Ox (evOp noCall (env e) h op) (fun v h' => Rx is (put e d v) h' Q k k) k
theorem w_op {d : Option Nat} {op : AOp} {is : List I} : Rx (⟨d, op, none⟩ :: is) e h Q k k = WOp d op is e h Q k k := by
  apply propext
  unfold Rx
  cases op <;> first
    | exact WR_op rfl
    | exact WR_call hE
    | (rename_i x xs
       simp only [WOp]
       cases hx : env e x with
       | fn f cap => rw [WR_callv hE hx]; rfl
       | _ =>
         simp only [WF, iff_false]
         rintro ⟨n, e', h', hev, _⟩
         simp [evR, evI, evOp, hx] at hev)
/-- A guard: heard, not heard, or on what was not done. -/
def WG (v : AV) (K : Bool → Prop) (A : Prop) (_ : Tag K) (_ : Tag A) : Prop := match v with
  | .bool t => K t
  | .tup [] => A
  | _ => False
theorem WG_bool {b : Bool} {K : Bool → Prop} {A : Prop} : WG (.bool b) K A k k = WB (.bool b) K k := rfl
theorem WG_skp {K : Bool → Prop} {A : Prop} : WG (.tup []) K A k k = A := rfl
theorem w_grd {d : Option Nat} {op : AOp} {is : List I} {t : Nat} {want : Bool} : Rx (⟨d, op, some (t, want)⟩ :: is) e h Q k k = WG (e.get t) (fun b => WI (b == want) (Rx (⟨d, op, none⟩ :: is) e h Q k k) (Rx is (put e d (.tup [])) h Q k k) k k) (Rx is (put e d (.tup [])) h Q k k) k k := by
  apply propext
  unfold Rx
  have bad : (∀ b, e.get t ≠ .bool b) → e.get t ≠ .tup [] → ¬ WR T E (⟨d, op, some (t, want)⟩ :: is) e h Q := by
    rintro h1 h2 ⟨n, e', h', hev, _⟩
    simp only [evR, evI] at hev
    cases hev
  cases hx : e.get t with
  | bool b => rw [WR_grd hx]; simp only [WG, WI, beq_iff_eq]
  | tup l =>
    cases l with
    | nil => rw [WR_grd0 hx]; rfl
    | cons a l =>
      simp only [WG, iff_false]
      exact bad (by rw [hx]; intro b; simp) (by rw [hx]; simp)
  | _ =>
    simp only [WG, iff_false]
    exact bad (by rw [hx]; intro b; simp) (by rw [hx]; simp)

theorem O_some {v : AV} {h : AH} {K : AV → AH → Prop} : Ox (some (v, h)) K k = K v h := rfl
theorem O_map {β : Type} {f : β → AV × AH} {b : β} {K : AV → AH → Prop} : Ox ((some b).map f) K k = K (f b).1 (f b).2 := rfl
theorem O_if {c : Prop} [Decidable c] {x : Option (AV × AH)} {K : AV → AH → Prop} : Ox (if c then x else none) K k = (c ∧ Ox x K k) := by
  unfold Ox; split <;> simp [*, WO]
theorem O_mapif {β : Type} {c : Prop} [Decidable c] {f : β → AV × AH} {x : Option β} {K : AV → AH → Prop} : Ox ((if c then x else none).map f) K k = (c ∧ Ox (x.map f) K k) := by
  unfold Ox; split <;> simp [*, WO]
theorem O_ite {c : Prop} [Decidable c] {x y : Option (AV × AH)} {K : AV → AH → Prop} : Ox (if c then x else y) K k = if c then Ox x K k else Ox y K k := by
  split <;> rfl

/-- Into a function of the table. -/
theorem S_of {f : Nat} {xs : List AV} {post : AV → AH → Prop} {fi : FI} (hEf : E f = none) (hT : T f = some fi)
    (hw : Cx fi.body (Env.init 0 xs) h (fun x e' h' => (x = .normal ∨ x = .ret) ∧ ∃ r, resV e' h' fi.res = some r ∧ post r h') k k) : S f xs h post k := Spec_of hEf hT hw
theorem S_ext {f : Nat} {xs : List AV} {post : AV → AH → Prop} {G : List AV → AH → Option AV} {r : AV} (hEf : E f = some (pureX G)) (hG : G xs h = some r) (hp : post r h) : S f xs h post k := Spec_ext hEf 0 (by simp [pureX, hG]) hp
theorem S_mono {f : Nat} {xs : List AV} {post post' : AV → AH → Prop} (hs : S f xs h post k) (hp : ∀ r h', post r h' → post' r h') : S f xs h post' k := Spec.mono hs hp
theorem Cx_mono {c : C} {R' : X → Env → AH → Prop} (hs : Cx c e h R k k) (hp : ∀ x e' h', R x e' h' → R' x e' h') : Cx c e h R' k k := WC.mono hs hp
end

/- The rules above, in bundles. -/
theorem zP : type_of% @w_kl ∧ type_of% @w_seq ∧ type_of% @w_reg ∧ type_of% @w_drw0 ∧ type_of% @w_blk ∧ type_of% @then_n ∧ type_of% @then_e ∧ type_of% @then_r ∧ type_of% @blk_n ∧
   type_of% @blk_e ∧ type_of% @blk_r ∧ type_of% @List.map_cons.{0,0} ∧ type_of% @List.map_nil.{0,0} := ⟨@w_kl, @w_seq, @w_reg, @w_drw0, @w_blk, @then_n, @then_e, @then_r, @blk_n,
   @blk_e, @blk_r, @List.map_cons.{0,0}, @List.map_nil.{0,0}⟩
theorem zW : type_of% @w_op ∧ type_of% @w_nil ∧ type_of% @w_cond ∧ type_of% @w_skip ∧ type_of% @w_exit ∧ type_of% @w_ret ∧ type_of% @w_grd ∧ type_of% @WG_bool ∧ type_of% @WG_skp ∧
   type_of% @WB_true ∧ type_of% @WB_false ∧ type_of% @WI_true ∧ type_of% @WI_false ∧ type_of% @WF_fn ∧ type_of% @beq_tt ∧ type_of% @beq_ff ∧ type_of% @beq_tf ∧ type_of% @beq_ft ∧
   type_of% @O_some ∧ type_of% @O_if ∧ type_of% @O_mapif ∧ type_of% @O_map ∧ type_of% @List.nil_append.{0} ∧ type_of% @List.cons_append.{0} ∧ type_of% @List.append_nil.{0} ∧
   type_of% @if_true.{1} ∧ type_of% @if_false.{1} ∧ type_of% @Option.map_some.{0,0} ∧ type_of% @Option.map_none.{0,0} ∧ type_of% @Option.bind_some.{0,0} ∧ type_of%
   @Option.some.injEq.{0} ∧ type_of% @Bool.not_true ∧ type_of% @Bool.not_false ∧ type_of% @Bool.false_eq_true ∧ type_of% @Bool.true_eq_false ∧ type_of% @decide_true ∧ type_of%
   @decide_false ∧ type_of% @true_and ∧ type_of% @and_true ∧ type_of% @false_and ∧ type_of% @and_false ∧ type_of% @true_or ∧ type_of% @or_true ∧ type_of% @false_or ∧ type_of%
   @or_false ∧ type_of% @Int.lt_irrefl ∧ type_of% @List.getElem?_cons_zero.{0} ∧ type_of% @List.getElem?_cons_succ.{0} ∧ type_of% @exists_eq_left'.{1} ∧ type_of%
   @List.length_cons.{0} ∧ type_of% @List.length_nil.{0} ∧ type_of% @List.all_cons.{0} ∧ type_of% @List.all_nil.{0} ∧ type_of% @List.take_succ_cons.{0} ∧ type_of%
   @List.take_zero.{0} ∧ type_of% @List.take_nil.{0} ∧ type_of% @List.drop_succ_cons.{0} ∧ type_of% @List.drop_zero.{0} ∧ type_of% @List.drop_nil.{0} ∧ type_of% @Bool.and_true ∧
   type_of% @Bool.true_and ∧ type_of% @Bool.false_and ∧ type_of% @Bool.and_false ∧ type_of% @Bool.and_self ∧ type_of% @Nat.le_refl ∧ type_of% @and_self ∧ type_of% @Nat.zero_add ∧
   type_of% @Int.toNat_natCast ∧ type_of% @Int.natCast_nonneg := ⟨@w_op, @w_nil, @w_cond, @w_skip, @w_exit, @w_ret, @w_grd, @WG_bool, @WG_skp, @WB_true, @WB_false, @WI_true,
   @WI_false, @WF_fn, @beq_tt, @beq_ff, @beq_tf, @beq_ft, @O_some, @O_if, @O_mapif, @O_map, @List.nil_append.{0}, @List.cons_append.{0}, @List.append_nil.{0}, @if_true.{1},
   @if_false.{1}, @Option.map_some.{0,0}, @Option.map_none.{0,0}, @Option.bind_some.{0,0}, @Option.some.injEq.{0}, @Bool.not_true, @Bool.not_false, @Bool.false_eq_true,
   @Bool.true_eq_false, @decide_true, @decide_false, @true_and, @and_true, @false_and, @and_false, @true_or, @or_true, @false_or, @or_false, @Int.lt_irrefl,
   @List.getElem?_cons_zero.{0}, @List.getElem?_cons_succ.{0}, @exists_eq_left'.{1}, @List.length_cons.{0}, @List.length_nil.{0}, @List.all_cons.{0}, @List.all_nil.{0},
   @List.take_succ_cons.{0}, @List.take_zero.{0}, @List.take_nil.{0}, @List.drop_succ_cons.{0}, @List.drop_zero.{0}, @List.drop_nil.{0}, @Bool.and_true, @Bool.true_and,
   @Bool.false_and, @Bool.and_false, @Bool.and_self, @Nat.le_refl, @and_self, @Nat.zero_add, @Int.toNat_natCast, @Int.natCast_nonneg⟩
theorem zL : type_of% @true_and ∧ type_of% @Nat.le_refl ∧ type_of% @List.length_append.{0} ∧ type_of% @List.length_cons.{0} ∧ type_of% @List.length_nil.{0} ∧ type_of%
   @List.length_map.{0,0} ∧ type_of% @List.length_set.{0} ∧ type_of% @List.length_take.{0} ∧ type_of% @List.length_drop.{0} := ⟨@true_and, @Nat.le_refl, @List.length_append.{0},
   @List.length_cons.{0}, @List.length_nil.{0}, @List.length_map.{0,0}, @List.length_set.{0}, @List.length_take.{0}, @List.length_drop.{0}⟩
end Go.Proofs.YthoibdfcaejgbaaDoor.Ab

/- FROM a function's answer in the abstract machine to what a row wants. -/
namespace Go.Proofs.YthoibdfcaejgbaaDoor.Ab
open Go Go.RowKit Go.ChangeShapes

theorem keptBut_below {W W' : World} (hb : Go.RowKit.Below W.heap.size W W') (may : MemPlace → Prop) : W.keptBut W' may := by
  refine ⟨hb.os, hb.output, fun i hi => ?_⟩
  rw [hb.block i hi]
  cases W.heap[i]? with
  | none => trivial
  | some o =>
    cases o <;> first
      | exact ⟨rfl, rfl, rfl, fun _ _ => rfl⟩
      | exact .inr ⟨rfl, rfl⟩
      | rfl

theorem frozen_below {W W' : World} (hb : Go.RowKit.Below W.heap.size W W') (a : Addr) (ha : a.block < W.heap.size) : W'.frozen? a = W.frozen? a := by
  simp only [World.frozen?, hb.block a.block ha]

section
variable {H : Type} {enc : TypeId × Value → H} {P : Program}
/-- What a call leaves that turns nothing old. -/
theorem post_below {f : Func} {s : ChangeSpec} {apart fresh handsOn again : Bool} {W W' : World} {args : Array Value} {v : Value} {ds gs : List (DataW H)} {before pa pv : List MemPlace}
    (hW : DataW.Whole enc P f.params.toList s.vars apart W args.toList ds gs before)
    (hres : ∀ (b : Nat) (sp : Nat → Bool) (hd : Bool), DataW.TrodAll enc P W' b sp hd f.resultTypes.toList (v.resultList f.resultTypes.size) (s.fn H (ds ++ gs)).results [])
    (hargs : ∀ sp : Nat → Bool, (∀ p ∈ before, sp p.block = true) → DataW.TrodAll enc P W' 0 sp true f.params.toList args.toList (s.fn H (ds ++ gs)).args pa)
    (hvars : ∀ sp : Nat → Bool, (∀ p ∈ before, sp p.block = true) → DataW.TrodVars enc P W' sp s.vars (s.fn H (ds ++ gs)).vars pv)
    (hps : before = pa ++ pv) (hb : Go.RowKit.Below W.heap.size W W')
    (hok : ∀ (j : Nat) (t : TypeId) (r : Value), f.resultTypes[j]? = some t → (v.resultList f.resultTypes.size)[j]? = some r → Value.okWide P W' .any 0 t r) :
    s.post enc P f apart fresh handsOn again W args v W' := by
  have hold : ∀ p ∈ before, (fun b => decide (b < W.heap.size)) p.block = true := fun p hp => by simpa using hW.lt p hp
  have hlt := hW.lt
  refine ⟨ds, gs, before, [], pa, pv, hW, hres _ _ _, hargs _ hold, hvars _ hold, World.keptBut_mono (fun p hp => ⟨hp, ?_⟩) (keptBut_below hb (· ∈ before)), fun _ => ?_⟩
  · rw [hps, List.mem_append] at hp
    exact Or.inr hp
  · obtain ⟨_, _, _, _, _, hz, hn⟩ := hW
    refine ⟨hok, _, _, ([] ++ pa) ++ pv, ⟨[] ++ pa, pv, trodAll_append (hargs _ (fun _ _ => rfl)) (hres _ _ _), hvars _ (fun _ _ => rfl), rfl, ?_, ?_⟩, ?_⟩
    · intro b off hp
      have hin : MemPlace.cell b off ∈ before := by rw [hps]; simpa using hp
      rw [frozen_below hb _ (show b < W.heap.size from hlt _ hin)]
      exact hz b off (by rw [hps]; simpa using hp)
    · intro ha
      have := hn ha
      rw [hps] at this
      simpa using this
    · intro p hp _
      rw [hps]
      simpa using hp
end

/-- A law that answers true. -/
theorem law_calls {P : Program} {F : Nat → Nat} (hs : ∀ n, Sound P F (evF T E n)) {f : Nat} {xs : List AV} {h : AH} (hS : S f xs h (fun r _ => r = .bool true) k) {m : Emb} {W : World} {args : Array Value} (hr : RelH F W.heap.size m h W) (hx : RelL F m xs args.toList) :
    Calls P (F f) args W fun e w' => e = .returned (.bool true) ∧ Go.RowKit.Below W.heap.size W w' := by
  obtain ⟨n, r, h', hev, rfl⟩ := hS
  obtain ⟨_, hc⟩ := hs n f xs h _ h' hev
  refine (hc W.heap.size m W args hr hx).mono ?_
  rintro e w' ⟨v, m', rfl, hv, hst⟩
  exact ⟨by rw [rel_bool hv], hst.below (Nat.le_refl _)⟩

/-- Nothing is known of the heap. -/
theorem rel_nothing (F : Nat → Nat) (W : World) : RelH F W.heap.size ⟨fun _ _ => none, fun _ => none⟩ [] W where
  rowc := by intro c k p h; cases h
  objc := by intro c b h; cases h
  ob := by intro c o h; simp at h
  inj := by intro c k p c' k' p' h; cases h
  injo := by intro c c' b h; cases h
  injr := by intro c k p c' b h; cases h
  ltr := by intro c k p h; cases h
  lto := by intro c b h; cases h
  vers := by intro c cs ver fl ro k p h; simp at h
  le := Nat.le_refl _
end Go.Proofs.YthoibdfcaejgbaaDoor.Ab

/- ARGUMENTS of a law: how they stand in the abstract machine's first state, and that they read as before behind the call. -/
namespace Go.Proofs.YthoibdfcaejgbaaDoor.Ab
open Go Go.RowKit Go.ChangeShapes Go.WideShapes Go.Deep

/-- One row that is read alone. -/
def emb1 (p : Place) : Emb := ⟨fun c k => if c = 0 ∧ k = 0 then some p else none, fun _ => none⟩
theorem rel_row {F : Nat → Nat} {W : World} {p : Place} {cs : List AV} {C : Array Value} {e : TypeId} {fr : Nat × Nat} (hb : W.heap[p.blk]? = some (.cells C e fr)) (hs : C.size = p.siz) (hlo : p.lo = 0) (hext : p.ext = cs.length) (hle : p.base + p.ext ≤ p.siz)
    (hv : ∀ j x, cs[j]? = some x → ∃ v, C[p.base + j]? = some v ∧ RelV F (emb1 p) x v) : RelH F W.heap.size (emb1 p) [.row cs 0 0 true] W := by
  have hlt : p.blk < W.heap.size := (Array.getElem?_eq_some_iff.1 hb).1
  have key : ∀ c k q, (emb1 p).row c k = some q → c = 0 ∧ k = 0 ∧ q = p := by
    intro c k q h
    simp only [emb1] at h
    split at h
    · rename_i hh; cases h; exact ⟨hh.1, hh.2, rfl⟩
    · cases h
  refine ⟨?_, ?_, ?_, ?_, ?_, ?_, ?_, ?_, ?_, Nat.le_refl _⟩
  · intro c k q h; obtain ⟨rfl, rfl, rfl⟩ := key c k q h; exact ⟨_, rfl, rfl⟩
  · intro c b h; cases h
  · intro c o ho
    cases c with
    | succ c => simp at ho
    | zero =>
      simp at ho
      subst ho
      intro k q hq hk
      obtain ⟨_, rfl, rfl⟩ := key 0 k q hq
      refine ⟨Nat.le_refl _, by omega, fun _ => hext, (fun h => by cases h), C, e, fr, hb, hs, by omega, (fun h => by cases h), ?_⟩
      intro j h1 h2
      have hj : j < cs.length := by omega
      obtain ⟨v, h3, h4⟩ := hv j cs[j] (by simp)
      exact ⟨cs[j], v, by simp, by rw [hlo]; simpa using h3, h4⟩
  · intro c k q c' k' q' h1 h2 h3 _
    obtain ⟨rfl, rfl, rfl⟩ := key c k q h1
    exact absurd hlt (by omega)
  · intro c c' b h; cases h
  · intro c k q c' b _ h; cases h
  · intro c k q h; obtain ⟨rfl, rfl, rfl⟩ := key c k q h; exact hlt
  · intro c b h; cases h
  · intro c cs' ver fl ro k q h1 h2
    obtain ⟨rfl, rfl, rfl⟩ := key c k q h2
    exact Nat.zero_le _

section
variable {H : Type} {enc : TypeId × Value → H} {P : Program}
/-- All arguments read behind the call as before. -/
theorem trodAll_stays (hl : laidOutB P = true) {W W' : World} (hb : Go.RowKit.Below W.heap.size W W') {sp : Nat → Bool} : ∀ {ts : List TypeId} {vs : List Value} {ds : List (DataW H)} {ps : List MemPlace},
    (∀ t ∈ ts, P.readableRec t = true ∧ t < P.types.size) → DataW.TrodAll enc P W 0 (fun _ => true) true ts vs ds ps → (∀ p ∈ ps, p.block < W.heap.size) → (∀ p ∈ ps, sp p.block = true) → DataW.TrodAll enc P W' 0 sp true ts vs ds ps
  | [], [], [], ps, _, h, _, _ => h
  | t :: ts, v :: vs, d :: ds, ps, ht, h, hlt, hsp => by
    obtain ⟨p, q, h1, h2, rfl⟩ := h
    obtain ⟨ht1, ht2⟩ := ht t (by simp)
    exact ⟨p, q, WideElems.Trod_stays hl ht1 ht2 h1 (fun x hx => hb.same (hlt x (by simp [hx]))) (fun x hx => hsp x (by simp [hx])), trodAll_stays hl hb (fun t' ht' => ht t' (by simp [ht'])) h2 (fun x hx => hlt x (by simp [hx])) (fun x hx => hsp x (by simp [hx])), rfl⟩
  | [], _ :: _, _, _, _, h, _, _ => by cases h
  | [], [], _ :: _, _, _, h, _, _ => by cases h
  | _ :: _, [], _, _, _, h, _, _ => by cases h
  | _ :: _, _ :: _, [], _, _, h, _, _ => by cases h
end
end Go.Proofs.YthoibdfcaejgbaaDoor.Ab

/- THE HEAP, as specs tell of it: what is kept, slices that are one's own, slices that are read. -/
namespace Go.Proofs.YthoibdfcaejgbaaDoor.Ab
open Go
set_option maxRecDepth 100000
set_option maxHeartbeats 4000000

/-- All that was there is there as it was. -/
def Pre (h h' : AH) : Prop := h.length ≤ h'.length ∧ ∀ c, c < h.length → h'[c]? = h[c]?
theorem Pre.refl (h : AH) : Pre h h := ⟨Nat.le_refl _, fun _ _ => rfl⟩
theorem Pre.trans {a b c : AH} (x : Pre a b) (y : Pre b c) : Pre a c := ⟨Nat.le_trans x.1 y.1, fun i hi => by rw [y.2 i (Nat.lt_of_lt_of_le hi x.1), x.2 i hi]⟩
theorem Pre.push (h : AH) (o : AO) : Pre h (h ++ [o]) := ⟨by simp, fun c hc => List.getElem?_append_left hc⟩
theorem Pre.set {h0 h : AH} {c : Nat} {o : AO} (x : Pre h0 h) (hc : h0.length ≤ c) : Pre h0 (h.set c o) := ⟨by simpa using x.1, fun i hi => by rw [List.getElem?_set]; rw [if_neg (by omega)]; exact x.2 i hi⟩

/-- A slice that holds cs (cells). -/
def Sl (h : AH) (esz : Nat) (v : AV) (n : Nat) (cs : List AV) : Prop := match v with
  | .nilS | .empS => n = 0 ∧ cs = []
  | .slice c k off len e => e = esz ∧ len = n ∧ n * esz = cs.length ∧ rdRow h c k off (n * esz) = some cs
  | _ => False
theorem rdRow_pre {h h' : AH} (hp : Pre h h') {c k off n : Nat} {cs : List AV} (hr : rdRow h c k off n = some cs) : rdRow h' c k off n = some cs := by
  have hlt : c < h.length := by
    unfold rdRow at hr; split at hr
    · rename_i hh; exact (List.getElem?_eq_some_iff.1 hh).1
    · cases hr
  unfold rdRow at hr ⊢
  rw [hp.2 c hlt]; exact hr
theorem Sl.pre {h h' : AH} (hp : Pre h h') {esz : Nat} {v : AV} {n : Nat} {cs : List AV} (hs : Sl h esz v n cs) : Sl h' esz v n cs := by
  cases v <;> simp only [Sl] at hs ⊢ <;> first
    | exact hs
    | (obtain ⟨h1, h2, h3, h4⟩ := hs; exact ⟨h1, h2, h3, rdRow_pre hp h4⟩)

/-- A slice whose row was made behind h0, and which ends where the row ends. -/
def Own (esz : Nat) (h0 h : AH) (v : AV) (n : Nat) (cs : List AV) : Prop := match v with
  | .nilS | .empS => n = 0 ∧ cs = []
  | .slice c k off len e => e = esz ∧ len = n ∧ n * esz = cs.length ∧ h0.length ≤ c ∧ ∃ cells fl, h[c]? = some (.row cells k fl false) ∧ fl ≤ k ∧ off + n * esz = cells.length ∧ cells.drop off = cs
  | _ => False
theorem Own.sl {esz : Nat} {h0 h : AH} {v : AV} {n : Nat} {cs : List AV} (ho : Own esz h0 h v n cs) : Sl h esz v n cs := by
  cases v <;> simp only [Own, Sl] at ho ⊢ <;> first
    | exact ho
    | (obtain ⟨h1, h2, h3, h4, cells, fl, h5, h6, h7, h8⟩ := ho
       refine ⟨h1, h2, h3, ?_⟩
       unfold rdRow
       rw [h5]
       simp only
       rw [if_pos ⟨h6, Nat.le_refl _, by omega⟩, h8, List.take_of_length_le (by omega)])
theorem Own.pre {esz : Nat} {h0 h h' : AH} (hp : Pre h h') {v : AV} {n : Nat} {cs : List AV} (ho : Own esz h0 h v n cs) : Own esz h0 h' v n cs := by
  cases v <;> simp only [Own] at ho ⊢ <;> first
    | exact ho
    | (obtain ⟨h1, h2, h3, h4, cells, fl, h5, h6⟩ := ho
       exact ⟨h1, h2, h3, h4, cells, fl, by rw [hp.2 _ (List.getElem?_eq_some_iff.1 h5).1]; exact h5, h6⟩)

/-- append to a slice of one's own. -/
theorem ap_own {esz : Nat} {h0 h : AH} {v : AV} {n : Nat} {cs : List AV} (ho : Own esz h0 h v n cs) (hp : Pre h0 h) {q : Nat} {vs : List AV} (hq : q * esz = vs.length) (hsc : vs.all AV.sc = true) (hroom : n + q ≤ room) :
    ∃ v' h', apRow h esz v q vs = some (v', h') ∧ Own esz h0 h' v' (n + q) (cs ++ vs) ∧ Pre h0 h' := by
  have fresh : n = 0 → cs = [] → q ≠ 0 → ∃ v' h', ((newRow h vs).map fun (c, h') => (AV.slice c 0 0 q esz, h')) = some (v', h') ∧ Own esz h0 h' v' (n + q) (cs ++ vs) ∧ Pre h0 h' := by
    rintro rfl rfl _
    refine ⟨.slice h.length 0 0 q esz, h ++ [.row vs 0 0 false], by simp only [newRow, hsc, if_true, Option.map_some], ?_, hp.trans (Pre.push _ _)⟩
    simp only [Own, List.nil_append, Nat.zero_add]
    exact ⟨trivial, trivial, hq, hp.1, vs, 0, by simp, Nat.le_refl _, by omega, rfl⟩
  cases v <;> simp only [Own] at ho <;> try (exact ho.elim)
  · obtain ⟨rfl, rfl⟩ := ho
    simp only [apRow]
    by_cases h0 : q = 0
    · subst h0
      have : vs = [] := List.eq_nil_of_length_eq_zero (by omega)
      subst this
      exact ⟨_, _, by rw [if_pos rfl], by simp [Own], hp⟩
    · rw [if_neg h0, if_pos (by omega)]; exact fresh rfl rfl h0
  · obtain ⟨rfl, rfl⟩ := ho
    simp only [apRow]
    by_cases h0 : q = 0
    · subst h0
      have : vs = [] := List.eq_nil_of_length_eq_zero (by omega)
      subst this
      exact ⟨_, _, by rw [if_pos rfl], by simp [Own], hp⟩
    · rw [if_neg h0, if_pos (by omega)]; exact fresh rfl rfl h0
  · rename_i c k off len e
    obtain ⟨rfl, rfl, h3, h4, cells, fl, h5, h6, h7, h8⟩ := ho
    have hlt := (List.getElem?_eq_some_iff.1 h5).1
    simp only [apRow, h5]
    rw [if_pos (by exact ⟨trivial, trivial, h7, h6, hsc, hroom⟩)]
    refine ⟨_, _, rfl, ?_, hp.set h4⟩
    simp only [Own]
    refine ⟨trivial, trivial, by rw [Nat.add_mul, h3, hq, List.length_append], h4, cells ++ vs, fl, by rw [List.getElem?_set, if_pos rfl, if_pos hlt], by omega, ?_, ?_⟩
    · rw [Nat.add_mul, List.length_append]; omega
    · rw [List.drop_append_of_le_length (by omega), h8]
theorem rdRow_push (h : AH) (cs : List AV) (ro : Bool) {n : Nat} (hn : n = cs.length) : rdRow (h ++ [.row cs 0 0 ro]) h.length 0 0 n = some cs := by
  subst hn
  unfold rdRow
  rw [List.getElem?_append_right (Nat.le_refl _)]
  simp
/-- The row that was made last. -/
theorem rd_last (h : AH) (cs : List AV) (ro : Bool) (off n : Nat) : rdRow (h ++ [.row cs 0 0 ro]) h.length 0 off n = if off + n ≤ cs.length then some ((cs.drop off).take n) else none := by
  unfold rdRow
  rw [List.getElem?_append_right (Nat.le_refl _)]
  simp
end Go.Proofs.YthoibdfcaejgbaaDoor.Ab

/- REGIONS of drawn order with reads beside: the states between are looked at. -/
namespace Go.Proofs.YthoibdfcaejgbaaDoor.Ab
open Go

/-- Operation by operation; the states before each are collected. -/
def Tr : List I → List (Env × AH) → Env → AH → (List (Env × AH) → Env → AH → Prop) → Prop
  | [], acc, e, h, Q => Q acc e h
  | i :: is, acc, e, h, Q => Rx [i] e h (fun e' h' => Tr is (acc ++ [(e, h)]) e' h' Q) k k

theorem Tr_runs : ∀ (is : List I) (acc : List (Env × AH)) (e : Env) (h : AH) (Q : List (Env × AH) → Env → AH → Prop), Tr is acc e h Q → ∃ n e' h' tr, evR (evF T E n) is e h = some (e', h') ∧ tr.length = is.length ∧
    (∀ i s, tr[i]? = some s → stateAt (evF T E n) is i e h = some s) ∧ Q (acc ++ tr) e' h'
  | [], acc, e, h, Q, hq => ⟨0, e, h, [], rfl, rfl, fun i s hs => by simp at hs, by simpa [Tr] using hq⟩
  | i :: is, acc, e, h, Q, hq => by
    simp only [Tr, Rx] at hq
    obtain ⟨n1, e1, h1, hev1, hq⟩ := hq
    obtain ⟨n2, e', h', tr, hev2, hlen, hst, hQ⟩ := Tr_runs is _ e1 h1 Q hq
    simp only [evR] at hev1
    split at hev1
    case h_2 => cases hev1
    rename_i e1' h1' hi
    simp only [Option.some.injEq, Prod.mk.injEq] at hev1
    obtain ⟨rfl, rfl⟩ := hev1
    have hi' := evI_mono (evF_mono (T := T) hE (Nat.le_max_left n1 n2)) hi
    refine ⟨max n1 n2, e', h', (e, h) :: tr, ?_, by simp [hlen], ?_, by simpa using hQ⟩
    · simp only [evR, hi']
      exact evR_mono (evF_mono hE (Nat.le_max_right n1 n2)) hev2
    · intro j s hs
      cases j with
      | zero => simp at hs; subst hs; simp [stateAt, evR]
      | succ j =>
        simp at hs
        have := evR_mono (evF_mono (T := T) hE (Nat.le_max_right n1 n2)) (hst j s hs)
        simp only [stateAt, List.take_succ_cons, evR, hi']
        exact this

/-- What a read sees does not turn by another operation. -/
def StT (is : List I) (tr : List (Env × AH)) (p : Nat × Nat) : Prop := match is[p.1]?, tr[p.1]?, tr[p.2]?, tr[p.2 + 1]? with
  | some o, some s1, some s2, some s3 => (evOp noCall (env s1.1) s2.2 o.op).map (·.1) = (evOp noCall (env s1.1) s3.2 o.op).map (·.1)
  | _, _, _, _ => False
def StA (is : List I) (tr : List (Env × AH)) : List (Nat × Nat) → Prop
  | [] => True
  | p :: ps => StT is tr p ∧ StA is tr ps
theorem StA_all {is : List I} {tr : List (Env × AH)} : ∀ {ps : List (Nat × Nat)}, StA is tr ps → ∀ p ∈ ps, StT is tr p
  | [], _, _, h => by cases h
  | q :: ps, hs, p, h => by
    rcases List.mem_cons.1 h with rfl | h
    · exact hs.1
    · exact StA_all hs.2 p h
theorem w_drw {is : List I} {ps : List (Nat × Nat)} {e : Env} {h : AH} {R : X → Env → AH → Prop} (ht : Tr is [] e h fun tr e' h' => StA is (tr ++ [(e', h')]) ps ∧ R .normal e' h') : Cx (.drw is ps) e h R k k := by
  obtain ⟨n, e', h', tr, hev, hlen, hst, hstab, hR⟩ := Tr_runs is [] e h _ ht
  refine ⟨n, .normal, e', h', ?_, hR⟩
  simp only [evC]
  have : evDraw (evF T E n) is ps e h = some (e', h') := by
    unfold evDraw
    rw [if_pos]
    · exact hev
    · intro p hp o e1 h1 e2 h2 e3 h3 k0 k1 k2 k3
      have hs := StA_all hstab p hp
      simp only [List.nil_append] at hs
      have all : ∀ i s, (tr ++ [(e', h')])[i]? = some s → stateAt (evF T E n) is i e h = some s := by
        intro i s hs
        by_cases hi : i < tr.length
        · rw [List.getElem?_append_left hi] at hs; exact hst i s hs
        · have hie : i = tr.length := by
            by_cases hie : i = tr.length
            · exact hie
            · rw [List.getElem?_eq_none (by simp; omega)] at hs; cases hs
          subst hie
          rw [List.getElem?_append_right (Nat.le_refl _)] at hs
          simp at hs
          subst hs
          rw [hlen]; simp [stateAt, hev]
      unfold StT at hs
      split at hs
      · rename_i o' s1 s2 s3 g0 g1 g2 g3
        rw [k0] at g0; cases g0
        have q1 := all _ _ g1; have q2 := all _ _ g2; have q3 := all _ _ g3
        rw [k1] at q1; rw [k2] at q2; rw [k3] at q3
        cases q1; cases q2; cases q3
        exact hs
      · exact hs.elim
  rw [this]; rfl
end Go.Proofs.YthoibdfcaejgbaaDoor.Ab

/- QUICK lemmas for the simplifier: tests that the context decides, wraps that do nothing, answers as equations. -/
namespace Go.Proofs.YthoibdfcaejgbaaDoor.Ab
open Go
set_option maxRecDepth 100000
set_option maxHeartbeats 4000000

theorem lt_t {a b : Int} (h : a < b) : (a < b) = True := eq_true h
theorem lt_f {a b : Int} (h : b ≤ a) : (a < b) = False := eq_false (by omega)
theorem le_t {a b : Int} (h : a ≤ b) : (a ≤ b) = True := eq_true h
theorem le_f {a b : Int} (h : b < a) : (a ≤ b) = False := eq_false (by omega)
theorem gt_t {a b : Int} (h : b < a) : (a > b) = True := eq_true h
theorem gt_f {a b : Int} (h : a ≤ b) : (a > b) = False := eq_false (by omega)
theorem ge_t {a b : Int} (h : b ≤ a) : (a ≥ b) = True := eq_true h
theorem ge_f {a b : Int} (h : a < b) : (a ≥ b) = False := eq_false (by omega)
theorem beq_t {a b : Int} (h : a = b) : (a == b) = true := by simp [h]
theorem beq_f {a b : Int} (h : a ≠ b) : (a == b) = false := by simp [h]
theorem bne_t {a b : Int} (h : a ≠ b) : (a != b) = true := by simp [h]
theorem bne_f {a b : Int} (h : a = b) : (a != b) = false := by simp [h]
theorem nlt_t {a b : Nat} (h : a < b) : (a < b) = True := eq_true h
theorem nlt_f {a b : Nat} (h : b ≤ a) : (a < b) = False := eq_false (by omega)
theorem nle_t {a b : Nat} (h : a ≤ b) : (a ≤ b) = True := eq_true h
theorem nle_f {a b : Nat} (h : b < a) : (a ≤ b) = False := eq_false (by omega)
theorem neq_t {a b : Nat} (h : a = b) : (a = b) = True := eq_true h
theorem neq_f {a b : Nat} (h : a ≠ b) : (a = b) = False := eq_false h
theorem wrap_i {n : Int} (h : -9223372036854775808 ≤ n ∧ n ≤ 9223372036854775807) : IntKind.i64.wrap n = n := by rw [IntKind.wrap_i64]; omega
theorem u8c (b c : UInt8) : ((b.toNat : Int) == (c.toNat : Int)) = (b == c) := by
  by_cases h : b = c
  · subst h; simp
  · have : ¬ ((b.toNat : Int) = (c.toNat : Int)) := fun hh => h (UInt8.toNat_inj.1 (by omega))
    rw [beq_eq_false_iff_ne.2 h, beq_eq_false_iff_ne.2 this]
theorem u8n (b c : UInt8) : ((b.toNat : Int) != (c.toNat : Int)) = !(b == c) := by rw [bne, u8c]
theorem u8T (b : UInt8) : ((b.toNat : Int) == 84) = (b == 84) := u8c b 84
theorem u8F (b : UInt8) : ((b.toNat : Int) == 70) = (b == 70) := u8c b 70
theorem u8D (b : UInt8) : ((b.toNat : Int) == 46) = (b == 46) := u8c b 46
theorem u8nT (b : UInt8) : ((b.toNat : Int) != 84) = !(b == 84) := u8n b 84
theorem u8nF (b : UInt8) : ((b.toNat : Int) != 70) = !(b == 70) := u8n b 70
theorem u8nD (b : UInt8) : ((b.toNat : Int) != 46) = !(b == 46) := u8n b 46
theorem rd_app {h l : AH} {c k off n : Nat} (hc : c < h.length) : rdRow (h ++ l) c k off n = rdRow h c k off n := by
  unfold rdRow; rw [List.getElem?_append_left hc]
theorem wr_last {h : AH} {cs : List AV} {ver fl k off : Nat} {vs : List AV} : wrRow (h ++ [.row cs ver fl false]) h.length k off vs = if k = ver ∧ fl ≤ ver ∧ off + vs.length ≤ cs.length ∧ vs.all AV.sc = true then some (h ++ [.row (splice cs off vs) ver ver false]) else none := by
  unfold wrRow
  rw [List.getElem?_append_right (Nat.le_refl _)]
  simp only [Nat.sub_self, List.getElem?_cons_zero]
  split
  · rw [List.set_append_right _ _ (Nat.le_refl _)]; simp
  · rfl
theorem wr_lasT {h : AH} {cs : List AV} {ver fl k off : Nat} {vs : List AV} (hc : k = ver ∧ fl ≤ ver ∧ off + vs.length ≤ cs.length) : wrRow (h ++ [.row cs ver fl false]) h.length k off vs = if vs.all AV.sc = true then some (h ++ [.row (splice cs off vs) ver ver false]) else none := by
  rw [wr_last]
  by_cases hs : vs.all AV.sc = true
  · rw [if_pos ⟨hc.1, hc.2.1, hc.2.2, hs⟩, if_pos hs]
  · rw [if_neg (fun x => hs x.2.2.2), if_neg hs]
theorem rd_lasT {h : AH} {cs : List AV} {ver fl k off n : Nat} {ro : Bool} (hc : fl ≤ k ∧ k ≤ ver ∧ off + n ≤ cs.length) : rdRow (h ++ [.row cs ver fl ro]) h.length k off n = some ((cs.drop off).take n) := by
  unfold rdRow
  rw [List.getElem?_append_right (Nat.le_refl _)]
  simp only [Nat.sub_self, List.getElem?_cons_zero]
  rw [if_pos hc]
theorem add_ok {n : Nat} {s : List UInt8} (h : n ≤ 9223372036854775807) : (if n ≤ two63 then some (AV.str s) else none) = some (AV.str s) := if_pos h
theorem wr_app {h l : AH} {c k off : Nat} {vs : List AV} (hc : c < h.length) : wrRow (h ++ l) c k off vs = (wrRow h c k off vs).map fun h' => h' ++ l := by
  unfold wrRow
  have hs : ∀ o, List.set (h ++ l) c o = List.set h c o ++ l := fun o => List.set_append_left _ _ hc
  rw [List.getElem?_append_left hc]
  simp only [hs]
  cases h[c]? with
  | none => rfl
  | some o =>
    cases o with
    | row cs ver fl ro =>
      cases ro
      · simp only
        split <;> rfl
      · rfl
    | map es => rfl
    | iter s p => rfl
theorem wr_of {h : AH} {c : Nat} {cs : List AV} {ver fl : Nat} (hr : h[c]? = some (.row cs ver fl false)) {k off : Nat} {vs : List AV} (hc : k = ver ∧ fl ≤ ver ∧ off + vs.length ≤ cs.length) : wrRow h c k off vs = if vs.all AV.sc = true then some (h.set c (.row (splice cs off vs) ver ver false)) else none := by
  unfold wrRow
  rw [hr]
  simp only
  by_cases hs : vs.all AV.sc = true
  · rw [if_pos ⟨hc.1, hc.2.1, hc.2.2, hs⟩, if_pos hs]
  · rw [if_neg (fun x => hs x.2.2.2), if_neg hs]
theorem rd_of {h : AH} {c : Nat} {cs : List AV} {ver fl : Nat} {ro : Bool} (hr : h[c]? = some (.row cs ver fl ro)) {k off n : Nat} (hc : fl ≤ k ∧ k ≤ ver ∧ off + n ≤ cs.length) : rdRow h c k off n = some ((cs.drop off).take n) := by
  unfold rdRow
  rw [hr]
  exact if_pos hc
theorem rd_set {h : AH} {c : Nat} {cs : List AV} {ver fl : Nat} {ro : Bool} {k off n : Nat} (hc : c < h.length) (hk : fl ≤ k ∧ k ≤ ver ∧ off + n ≤ cs.length) : rdRow (h.set c (.row cs ver fl ro)) c k off n = some ((cs.drop off).take n) :=
  rd_of (by rw [List.getElem?_set, if_pos rfl, if_pos hc]) hk
theorem rd_ne {h : AH} {c d : Nat} {o : AO} {k off n : Nat} (hd : c ≠ d) : rdRow (h.set c o) d k off n = rdRow h d k off n := by
  unfold rdRow
  rw [List.getElem?_set, if_neg hd]
theorem pre_last {h h2 : AH} {o : AO} (hp : Pre (h ++ [o]) h2) : h2[h.length]? = some o := by
  rw [hp.2 _ (by simp)]; simp
theorem pre_of_last {h h2 : AH} {o : AO} (hp : Pre (h ++ [o]) h2) : Pre h h2 := (Pre.push h o).trans hp
theorem pre_set_last {h h2 : AH} {o o' : AO} (hp : Pre (h ++ [o]) h2) : Pre h (h2.set h.length o') := (pre_of_last hp).set (Nat.le_refl _)
theorem pre_last_lt {h h2 : AH} {o : AO} (hp : Pre (h ++ [o]) h2) : h.length < h2.length := by have := hp.1; simp at this; omega
abbrev byL (s : List UInt8) : List AV := s.map fun b => AV.int .u8 b.toNat
theorem sc_bytes (s : List UInt8) : (s.map fun b => AV.int .u8 b.toNat).all AV.sc = true := by simp [AV.sc]
theorem bytesL_map : ∀ s : List UInt8, bytesL (s.map fun b => AV.int .u8 b.toNat) = some s
  | [] => rfl
  | b :: s => by simp only [List.map_cons, bytesL, byte1, bytesL_map s]; simp
theorem splice_one {α : Type} {l : List α} {off : Nat} {v : α} (h : off < l.length) : splice l off [v] = l.set off v := by
  unfold splice
  rw [List.set_eq_take_append_cons_drop, if_pos h]; simp
theorem splB {w : List UInt8} {i : Nat} {b : UInt8} (h : i < w.length) : splice (w.map fun b => AV.int .u8 b.toNat) (i * 1) [.int .u8 (b.toNat : Int)] = (w.set i b).map fun b => AV.int .u8 b.toNat := by
  rw [Nat.mul_one, splice_one (by simpa using h), List.map_set]
theorem splD {w : List UInt8} {i : Nat} (h : i < w.length) : splice (w.map fun b => AV.int .u8 b.toNat) (i * 1) [.int .u8 46] = (w.set i 46).map fun b => AV.int .u8 b.toNat := splB (b := 46) h
theorem tkB {w : List UInt8} {i : Nat} (h : i < w.length) : ((w.map fun b => AV.int .u8 b.toNat).drop (i * 1)).take 1 = [.int .u8 ((w.getD i 0).toNat : Int)] := by
  rw [Nat.mul_one, ← List.map_drop, List.drop_eq_getElem_cons h, List.map_cons, List.take_succ_cons, List.take_zero]
  simp [List.getD_eq_getElem?_getD, h]
theorem take_all {α : Type} {l : List α} {n : Nat} (h : l.length ≤ n) : l.take n = l := List.take_of_length_le h
theorem getD_nat (s : List UInt8) (i : Nat) : s.getD (i : Int).toNat 0 = s.getD i 0 := by simp

/-- An answer is the only one. -/
theorem S_eq {f : Nat} {xs : List AV} {h : AH} {r : AV} {h' : AH} {post : AV → AH → Prop} (hs : ∀ post : AV → AH → Prop, post r h' → S f xs h post k) : S f xs h post k = post r h' := by
  apply propext
  constructor
  · rintro ⟨n, r1, h1, e1, hp⟩
    obtain ⟨m, r2, h2, e2, rfl, rfl⟩ := hs (fun r1 h1 => r1 = r ∧ h1 = h') ⟨rfl, rfl⟩
    have k1 := evF_mono (T := T) hE (Nat.le_max_left n m) _ _ _ _ e1
    have k2 := evF_mono (T := T) hE (Nat.le_max_right n m) _ _ _ _ e2
    rw [k1] at k2
    simp only [Option.some.injEq, Prod.mk.injEq] at k2
    obtain ⟨rfl, rfl⟩ := k2
    exact hp
  · exact hs post
theorem S_exte {f : Nat} {xs : List AV} {h : AH} {G : List AV → AH → Option AV} {r : AV} (hEf : E f = some (pureX G)) (hG : G xs h = some r) {post : AV → AH → Prop} : S f xs h post k = post r h := S_eq fun _ hp => S_ext hEf hG hp

/- The rules above, in bundles. -/
theorem zR : type_of% @splB ∧ type_of% @splD := ⟨@splB, @splD⟩
theorem zQ : type_of% @beq_self_eq_true.{0} ∧ type_of% @lt_t ∧ type_of% @lt_f ∧ type_of% @le_t ∧ type_of% @le_f ∧ type_of% @gt_t ∧ type_of% @gt_f ∧ type_of% @ge_t ∧ type_of% @ge_f ∧
   type_of% @beq_t ∧ type_of% @beq_f ∧ type_of% @bne_t ∧ type_of% @bne_f ∧ type_of% @wrap_i ∧ type_of% @u8c ∧ type_of% @u8n ∧ type_of% @u8T ∧ type_of% @u8F ∧ type_of% @u8D ∧
   type_of% @u8nT ∧ type_of% @u8nF ∧ type_of% @u8nD ∧ type_of% @getD_nat ∧ type_of% @rd_lasT ∧ type_of% @rd_app ∧ type_of% @wr_lasT ∧ type_of% @wr_app ∧ type_of% @rd_set ∧ type_of%
   @rd_ne ∧ type_of% @add_ok ∧ type_of% @tkB ∧ type_of% @take_all ∧ type_of% @bytesL_map := ⟨@beq_self_eq_true.{0}, @lt_t, @lt_f, @le_t, @le_f, @gt_t, @gt_f, @ge_t, @ge_f, @beq_t,
   @beq_f, @bne_t, @bne_f, @wrap_i, @u8c, @u8n, @u8T, @u8F, @u8D, @u8nT, @u8nF, @u8nD, @getD_nat, @rd_lasT, @rd_app, @wr_lasT, @wr_app, @rd_set, @rd_ne, @add_ok, @tkB, @take_all,
   @bytesL_map⟩
end Go.Proofs.YthoibdfcaejgbaaDoor.Ab

/- TYPED slices: what a slice holds, element by element. -/
namespace Go.Proofs.YthoibdfcaejgbaaDoor.Ab
open Go
set_option maxRecDepth 100000
set_option maxHeartbeats 4000000

section
variable {α : Type} (esz : Nat) (enc : α → List AV)
def Slc (h : AH) (v : AV) (L : List α) : Prop := Sl h esz v L.length (L.flatMap enc)
def OwL (h0 h : AH) (v : AV) (L : List α) : Prop := Own esz h0 h v L.length (L.flatMap enc)
end
section
variable {α : Type} {esz : Nat} {enc : α → List AV}
theorem flat_len (hl : ∀ x, (enc x).length = esz) : ∀ L : List α, (L.flatMap enc).length = L.length * esz
  | [] => by simp
  | x :: L => by rw [List.flatMap_cons, List.length_append, hl, flat_len hl L, List.length_cons, Nat.succ_mul]; omega
theorem flat_at (hl : ∀ x, (enc x).length = esz) (pre : List α) (x : α) (rest : List α) : (((pre ++ x :: rest).flatMap enc).drop (pre.length * esz)).take esz = enc x := by
  rw [List.flatMap_append, List.flatMap_cons, List.drop_left' (flat_len hl pre), List.take_left' (hl x)]
theorem rd_part {h : AH} {c k off n : Nat} {cs : List AV} (hr : rdRow h c k off n = some cs) {o m : Nat} (ho : o + m ≤ n) : rdRow h c k (off + o) m = some ((cs.drop o).take m) := by
  unfold rdRow at hr ⊢
  split at hr
  · rename_i cells ver fl _ hh
    split at hr
    · rename_i hc
      cases hr
      rw [if_pos ⟨hc.1, hc.2.1, by omega⟩, List.drop_take, List.take_take, Nat.min_eq_left (by omega), List.drop_drop]
    · cases hr
  · cases hr
theorem Slc.pre {h h' : AH} (hp : Pre h h') {v : AV} {L : List α} (hs : Slc esz enc h v L) : Slc esz enc h' v L := Sl.pre hp hs
theorem OwL.slc {h0 h : AH} {v : AV} {L : List α} (ho : OwL esz enc h0 h v L) : Slc esz enc h v L := Own.sl ho
theorem OwL.pre {h0 h h' : AH} (hp : Pre h h') {v : AV} {L : List α} (ho : OwL esz enc h0 h v L) : OwL esz enc h0 h' v L := Own.pre hp ho
theorem OwL.old {h0 h1 h : AH} {v : AV} {L : List α} (ho : OwL esz enc h1 h v L) (hp : h0.length ≤ h1.length) : OwL esz enc h0 h v L := by
  unfold OwL Own at ho ⊢
  split at ho
  · exact ho
  · exact ho
  · obtain ⟨h1, h2, h3, h4, h5⟩ := ho; exact ⟨h1, h2, h3, Nat.le_trans hp h4, h5⟩
  · exact ho
theorem Slc.nil {h : AH} : Slc esz enc h .nilS ([] : List α) := ⟨rfl, rfl⟩
theorem Slc.emp {h : AH} : Slc esz enc h .empS ([] : List α) := ⟨rfl, rfl⟩
theorem OwL.nil {h0 h : AH} : OwL esz enc h0 h .nilS ([] : List α) := ⟨rfl, rfl⟩
theorem OwL.emp {h0 h : AH} : OwL esz enc h0 h .empS ([] : List α) := ⟨rfl, rfl⟩
/-- Which slice it is, and what its element is. -/
theorem Slc.at (hl : ∀ x, (enc x).length = esz) {h : AH} {v : AV} {pre : List α} {x : α} {rest : List α} (hs : Slc esz enc h v (pre ++ x :: rest)) : ∃ c kk off, v = .slice c kk off (pre ++ x :: rest).length esz ∧ rdRow h c kk (off + pre.length * esz) esz = some (enc x) := by
  unfold Slc at hs
  cases v <;> simp only [Sl] at hs <;> first
    | (exact hs.elim)
    | (have := hs.1; simp at this; done)
    | skip
  rename_i c kk off len e
  obtain ⟨rfl, rfl, h3, h4⟩ := hs
  refine ⟨c, kk, off, rfl, ?_⟩
  rw [rd_part h4 (by rw [← Nat.succ_mul]; exact Nat.mul_le_mul_right _ (by simp)), flat_at hl]
theorem Slc.rd (hl : ∀ x, (enc x).length = esz) {h : AH} {c kk off n e : Nat} {pre : List α} {x : α} {rest : List α} (hs : Slc esz enc h (.slice c kk off n e) (pre ++ x :: rest)) : rdRow h c kk (off + pre.length * esz) esz = some (enc x) := by
  obtain ⟨c', k', o', he, hr⟩ := hs.at hl
  cases he; exact hr
theorem Slc.all {h : AH} {c kk off n e : Nat} {L : List α} (hs : Slc esz enc h (.slice c kk off n e) L) : n = L.length ∧ e = esz ∧ rdRow h c kk off (n * esz) = some (L.flatMap enc) := by
  unfold Slc at hs
  simp only [Sl] at hs
  obtain ⟨h1, h2, _, h4⟩ := hs
  exact ⟨h2, h1, by rw [h2]; exact h4⟩
theorem Slc.lenV {h : AH} {v : AV} {L : List α} (hs : Slc esz enc h v L) {g : AH} {ρ : Opd → AV} {x : Opd} (hx : ρ x = v) : evOp noCall ρ g (.lenV x) = some (.int .i64 L.length, g) := by
  unfold Slc at hs
  simp only [evOp, hx]
  cases v <;> simp only [Sl] at hs <;> first
    | (exact hs.elim)
    | (have := hs.1; simp only [this]; rfl)
    | (obtain ⟨_, rfl, _⟩ := hs; rfl)
theorem Slc.cases {h : AH} {v : AV} {L : List α} (hs : Slc esz enc h v L) : (v = .nilS ∧ L = []) ∨ (v = .empS ∧ L = []) ∨ ∃ c kk off, v = .slice c kk off L.length esz := by
  unfold Slc at hs
  cases v <;> simp only [Sl] at hs <;> first
    | (exact hs.elim)
    | (obtain ⟨h1, _⟩ := hs; exact .inl ⟨rfl, List.eq_nil_of_length_eq_zero h1⟩)
    | (obtain ⟨h1, _⟩ := hs; exact .inr (.inl ⟨rfl, List.eq_nil_of_length_eq_zero h1⟩))
    | (obtain ⟨rfl, rfl, _⟩ := hs; exact .inr (.inr ⟨_, _, _, rfl⟩))
/-- append of one element. -/
theorem apL (hl : ∀ x, (enc x).length = esz) (hsc : ∀ x, (enc x).all AV.sc = true) {h0 h : AH} {v : AV} {L : List α} (ho : OwL esz enc h0 h v L) (hp : Pre h0 h) (x : α) (hr : L.length + 1 ≤ 1099511627776) :
    ∃ v' h', apRow h esz v 1 (enc x) = some (v', h') ∧ OwL esz enc h0 h' v' (L ++ [x]) ∧ Pre h0 h' := by
  obtain ⟨v', h', h1, h2, h3⟩ := ap_own ho hp (q := 1) (vs := enc x) (by rw [hl]; omega) (hsc x) hr
  refine ⟨v', h', h1, ?_, h3⟩
  unfold OwL
  rw [List.length_append, List.flatMap_append]
  simpa using h2
end
/-- Two heaps agree below n. -/
def Ag (n : Nat) (h h' : AH) : Prop := h.length ≤ h'.length ∧ ∀ i, i < n → h'[i]? = h[i]?
theorem Ag.refl (n : Nat) (h : AH) : Ag n h h := ⟨Nat.le_refl _, fun _ _ => rfl⟩
theorem Ag.trans {n : Nat} {a b c : AH} (x : Ag n a b) (y : Ag n b c) : Ag n a c := ⟨Nat.le_trans x.1 y.1, fun i hi => by rw [y.2 i hi, x.2 i hi]⟩
theorem Pre.ag {h h' : AH} (hp : Pre h h') {n : Nat} (hn : n ≤ h.length) : Ag n h h' := ⟨hp.1, fun i hi => hp.2 i (Nat.lt_of_lt_of_le hi hn)⟩
theorem Ag.pre {h h' : AH} {n : Nat} (ha : Ag n h h') (hn : h.length ≤ n) : Pre h h' := ⟨ha.1, fun i hi => ha.2 i (Nat.lt_of_lt_of_le hi hn)⟩
theorem Ag.mono {h h' : AH} {n m : Nat} (ha : Ag n h h') (hn : m ≤ n) : Ag m h h' := ⟨ha.1, fun i hi => ha.2 i (Nat.lt_of_lt_of_le hi hn)⟩
theorem Ag.set {h h' : AH} {n c : Nat} {o : AO} (ha : Ag n h h') (hc : n ≤ c) : Ag n h (h'.set c o) := ⟨by simpa using ha.1, fun i hi => by rw [List.getElem?_set, if_neg (by omega)]; exact ha.2 i hi⟩
theorem Pre.trans' {a b c : AH} (x : Pre a b) (y : Ag a.length b c) : Pre a c := ⟨Nat.le_trans x.1 y.1, fun i hi => by rw [y.2 i hi, x.2 i hi]⟩
/-- append to a slice of one's own: what lies below is as it was. -/
theorem ap_ag {esz : Nat} {b h : AH} {v : AV} {n : Nat} {cs : List AV} (ho : Own esz b h v n cs) (hb : b.length ≤ h.length) {q : Nat} {vs : List AV} (hq : q * esz = vs.length) (hsc : vs.all AV.sc = true) (hroom : n + q ≤ room) :
    ∃ v' h', apRow h esz v q vs = some (v', h') ∧ Own esz b h' v' (n + q) (cs ++ vs) ∧ Ag b.length h h' := by
  have ho' : Own esz (h.take b.length) h v n cs := by
    unfold Own at ho ⊢
    cases v <;> simp only at ho ⊢ <;> first
      | exact ho
      | (obtain ⟨h1, h2, h3, h4, h5⟩ := ho; exact ⟨h1, h2, h3, by simp; omega, h5⟩)
  have hp : Pre (h.take b.length) h := ⟨by simp; omega, fun i hi => by simp at hi; rw [List.getElem?_take, if_pos (by omega)]⟩
  obtain ⟨v', h', h1, h2, h3⟩ := ap_own ho' hp hq hsc hroom
  refine ⟨v', h', h1, ?_, ?_, ?_⟩
  · unfold Own at h2 ⊢
    cases v' <;> simp only at h2 ⊢ <;> first
      | exact h2
      | (obtain ⟨k1, k2, k3, k4, k5⟩ := h2; exact ⟨k1, k2, k3, by simp at k4; omega, k5⟩)
  · unfold apRow at h1
    cases v <;> simp only at h1 <;> first
      | (cases h1; done)
      | (split at h1
         · cases h1; exact Nat.le_refl _
         · split at h1
           · simp only [newRow, hsc, if_true, Option.map_some, Option.some.injEq, Prod.mk.injEq] at h1
             obtain ⟨_, rfl⟩ := h1; simp
           · cases h1)
      | (split at h1
         · split at h1
           · cases h1; simp
           · cases h1
         · cases h1)
  · intro i hi
    have := h3.2 i (by simp; omega)
    rw [this, List.getElem?_take, if_pos hi]
section
variable {α : Type} {esz : Nat} {enc : α → List AV}
theorem apA (hl : ∀ x, (enc x).length = esz) (hsc : ∀ x, (enc x).all AV.sc = true) {b h : AH} {v : AV} {L : List α} (ho : OwL esz enc b h v L) (hb : b.length ≤ h.length) (x : α) (hr : L.length + 1 ≤ 1099511627776) :
    ∃ v' h', apRow h esz v 1 (enc x) = some (v', h') ∧ OwL esz enc b h' v' (L ++ [x]) ∧ Ag b.length h h' := by
  obtain ⟨v', h', h1, h2, h3⟩ := ap_ag ho hb (q := 1) (vs := enc x) (by rw [hl]; omega) (hsc x) hr
  refine ⟨v', h', h1, ?_, h3⟩
  unfold OwL
  rw [List.length_append, List.flatMap_append]
  simpa using h2
end
/-- A store into a slice of one's own. -/
theorem OwL.store {α : Type} {esz : Nat} {enc : α → List AV} (hl : ∀ x, (enc x).length = esz) (hsc : ∀ x, (enc x).all AV.sc = true) {b h : AH} {v : AV} {pre : List α} {x : α} {rest : List α} (ho : OwL esz enc b h v (pre ++ x :: rest)) (y : α) :
    ∃ c kk off h', v = .slice c kk off (pre ++ x :: rest).length esz ∧ wrRow h c kk (off + pre.length * esz) (enc y) = some h' ∧ OwL esz enc b h' v (pre ++ y :: rest) ∧ b.length ≤ c ∧ h'.length = h.length ∧ ∀ i, i ≠ c → h'[i]? = h[i]? := by
  unfold OwL Own at ho
  cases v <;> simp only at ho <;> first
    | (exact ho.elim)
    | (have := ho.1; simp at this; done)
    | skip
  rename_i c kk off len e
  obtain ⟨rfl, rfl, h3, h4, cells, fl, h5, h6, h7, h8⟩ := ho
  have hlt := (List.getElem?_eq_some_iff.1 h5).1
  have hn : (pre ++ x :: rest).length * e = pre.length * e + e + rest.length * e := by
    simp only [List.length_append, List.length_cons, Nat.add_mul, Nat.one_mul]; try omega
  have hf : (pre ++ x :: rest).flatMap enc = pre.flatMap enc ++ (enc x ++ rest.flatMap enc) := by simp
  have hf2 : (pre ++ y :: rest).flatMap enc = pre.flatMap enc ++ (enc y ++ rest.flatMap enc) := by simp
  have hpl := flat_len hl pre
  refine ⟨c, kk, off, h.set c (.row (splice cells (off + pre.length * e) (enc y)) kk kk false), rfl, ?_, ?_, h4, by simp, fun i hi => by rw [List.getElem?_set, if_neg (Ne.symm hi)]⟩
  · unfold wrRow
    rw [h5]
    simp only
    rw [if_pos ⟨trivial, h6, by rw [hl]; omega, hsc y⟩]
  · unfold OwL Own
    simp only
    have hsl : (splice cells (off + pre.length * e) (enc y)).length = cells.length := by
      unfold splice
      simp only [List.length_append, List.length_take, List.length_drop, hl]
      omega
    refine ⟨trivial, by simp, by (rw [flat_len hl]; try simp), h4, _, kk, by rw [List.getElem?_set, if_pos rfl, if_pos hlt], Nat.le_refl _, by rw [hsl]; simp at h7 ⊢; omega, ?_⟩
    unfold splice
    rw [List.append_assoc, List.drop_append_of_le_length (by simp; omega), List.drop_take, h8, hf, hf2, hl]
    rw [show off + pre.length * e - off = pre.length * e by omega, List.take_left' hpl]
    congr 2
    have : cells.drop (off + pre.length * e + e) = (cells.drop off).drop (pre.length * e + e) := by rw [List.drop_drop]; congr 1; omega
    rw [this, h8, hf, ← List.drop_drop, List.drop_left' hpl, List.drop_left' (hl x)]
/-- An iterator moves on: slices stay. -/
theorem own_set {esz : Nat} {b h : AH} {v : AV} {n : Nat} {cs : List AV} (ho : Own esz b h v n cs) {c : Nat} {o : AO} (hc : c < b.length) : Own esz b (h.set c o) v n cs := by
  unfold Own at ho ⊢
  cases v <;> simp only at ho ⊢ <;> first
    | exact ho
    | (obtain ⟨h1, h2, h3, h4, cells, fl, h5, h6⟩ := ho
       exact ⟨h1, h2, h3, h4, cells, fl, by rw [List.getElem?_set, if_neg (by omega)]; exact h5, h6⟩)
theorem own_iter {esz : Nat} {b h : AH} {v : AV} {n : Nat} {cs : List AV} (ho : Own esz b h v n cs) {c : Nat} {o : AO} {s : List UInt8} {p : Nat} (hc : h[c]? = some (.iter s p)) : Own esz b (h.set c o) v n cs := by
  unfold Own at ho ⊢
  cases v <;> simp only at ho ⊢ <;> first
    | exact ho
    | (obtain ⟨h1, h2, h3, h4, cells, fl, h5, h6⟩ := ho
       refine ⟨h1, h2, h3, h4, cells, fl, ?_, h6⟩
       rw [List.getElem?_set, if_neg]
       · exact h5
       · rintro rfl
         rw [hc] at h5; cases h5)
theorem own_base {esz : Nat} {b b' h : AH} {v : AV} {n : Nat} {cs : List AV} (ho : Own esz b h v n cs) (hb : b'.length ≤ b.length) : Own esz b' h v n cs := by
  unfold Own at ho ⊢
  cases v <;> simp only at ho ⊢ <;> first
    | exact ho
    | (obtain ⟨h1, h2, h3, h4, h5⟩ := ho; exact ⟨h1, h2, h3, Nat.le_trans hb h4, h5⟩)
abbrev encS (s : List UInt8) : List AV := [.str s]
abbrev encI (n : Int) : List AV := [.int .i64 n]
abbrev encB (b : Bool) : List AV := [.bool b]
abbrev encM (m : Int × Int) : List AV := [.int .i64 m.1, .int .i64 m.2]
abbrev encC (c : Int × Int × Int) : List AV := [.int .i64 c.1, .int .i64 c.2.1, .int .i64 c.2.2]
theorem hlS (s : List UInt8) : (encS s).length = 1 := rfl
theorem hlI (s : Int) : (encI s).length = 1 := rfl
theorem hlB (s : Bool) : (encB s).length = 1 := rfl
theorem hlM (s : Int × Int) : (encM s).length = 2 := rfl
theorem hlC (s : Int × Int × Int) : (encC s).length = 3 := rfl
theorem scS (s : List UInt8) : (encS s).all AV.sc = true := rfl
theorem scI (s : Int) : (encI s).all AV.sc = true := rfl
theorem scB (s : Bool) : (encB s).all AV.sc = true := rfl
theorem scM (s : Int × Int) : (encM s).all AV.sc = true := rfl
theorem scC (s : Int × Int × Int) : (encC s).all AV.sc = true := rfl
/-- All old rows but one are as they were. -/
def PreX (c : Nat) (h h' : AH) : Prop := h.length ≤ h'.length ∧ ∀ i, i < h.length → i ≠ c → h'[i]? = h[i]?
theorem Pre.x {h h' : AH} (hp : Pre h h') (c : Nat) : PreX c h h' := ⟨hp.1, fun i hi _ => hp.2 i hi⟩
theorem PreX.trans {c : Nat} {h1 h2 h3 : AH} (x : PreX c h1 h2) (y : PreX c h2 h3) : PreX c h1 h3 := ⟨Nat.le_trans x.1 y.1, fun i hi hc => by rw [y.2 i (Nat.lt_of_lt_of_le hi x.1) hc, x.2 i hi hc]⟩
theorem PreX.refl (c : Nat) (h : AH) : PreX c h h := ⟨Nat.le_refl _, fun _ _ _ => rfl⟩
theorem PreX.pre {c : Nat} {h1 h2 : AH} (x : PreX c h1 h2) (hc : h1.length ≤ c) : Pre h1 h2 := ⟨x.1, fun i hi => x.2 i hi (by omega)⟩
theorem PreX.pre2 {c : Nat} {h h2 : AH} {o o' : AO} (x : PreX c (h ++ [o]) h2) (hc : h.length + 1 ≤ c) : Pre h (h2.set h.length o') := by
  have h1 := x.1
  simp at h1
  exact ⟨by simp; omega, fun i hi => by rw [List.getElem?_set, if_neg (by omega), x.2 i (by simp; omega) (by omega), List.getElem?_append_left hi]⟩
theorem PreX.set {c : Nat} {h0 h : AH} {o : AO} (x : PreX c h0 h) : PreX c h0 (h.set c o) := ⟨by simpa using x.1, fun i hi hc => by rw [List.getElem?_set, if_neg (by omega)]; exact x.2 i hi hc⟩
theorem rd_lt {h : AH} {c k off n : Nat} {cs : List AV} (hr : rdRow h c k off n = some cs) : c < h.length := by
  unfold rdRow at hr; split at hr
  · rename_i hh; exact (List.getElem?_eq_some_iff.1 hh).1
  · cases hr
theorem rdRow_prex {h h' : AH} {x : Nat} (hp : PreX x h h') {c k off n : Nat} {cs : List AV} (hc : c ≠ x) (hr : rdRow h c k off n = some cs) : rdRow h' c k off n = some cs := by
  have hlt : c < h.length := by
    unfold rdRow at hr; split at hr
    · rename_i hh; exact (List.getElem?_eq_some_iff.1 hh).1
    · cases hr
  unfold rdRow at hr ⊢
  rw [hp.2 c hlt hc]; exact hr
theorem OwL.slc_prex {α : Type} {esz : Nat} {enc : α → List AV} {h0 h h' : AH} {v : AV} {L : List α} {c : Nat} (ho : OwL esz enc h0 h v L) (hp : PreX c h h') (hc : c < h0.length) : Slc esz enc h' v L := by
  have hs := ho.slc
  unfold OwL Own at ho
  unfold Slc Sl at hs ⊢
  cases v <;> simp only at ho hs ⊢ <;> first
    | exact hs
    | (obtain ⟨h1, h2, h3, h4⟩ := hs
       exact ⟨h1, h2, h3, rdRow_prex hp (by have := ho.2.2.2.1; omega) h4⟩)
end Go.Proofs.YthoibdfcaejgbaaDoor.Ab

/- ARGUMENTS: slices of structs of three integers; a struct of an integer and such a slice. -/
namespace Go.Proofs.YthoibdfcaejgbaaDoor.Ab
open Go Go.RowKit Go.ChangeShapes Go.WideShapes Go.Deep Go.Joins
set_option maxRecDepth 100000

section
variable {H : Type} {enc : TypeId × Value → H} {P : Program}
theorem cell_atA {W : World} {blk off : Nat} {C : Array Value} {ee : TypeId} {fr : Nat × Nat} (h : W.heap[blk]? = some (.cells C ee fr)) (i : Nat) : W.cell? (Addr.add ⟨blk, off, none⟩ i) = C[off + i]? := by
  unfold Addr.add
  split
  · rename_i h0; simp [World.cell?, h, h0]
  · simp [World.cell?, h]
theorem open_int1 {W : World} {b0 fuel : Nat} {sp : Nat → Bool} {hd : Bool} {t : TypeId} (ht : P.underlying t = some (.int .i64)) {c : Value} {y : DataW H × List MemPlace} (h : DataW.trod enc P W b0 sp hd fuel t [c] = some y) : ∃ n, c = .int .i64 n := by
  obtain ⟨n', h1, _⟩ := DataW.trod_int ht h
  simp at h1
  exact ⟨n', h1⟩
theorem open_clue {W : World} {b0 fuel : Nat} {sp : Nat → Bool} {hd : Bool} {e : TypeId} {f0 f1 f2 : Field} (he : P.underlying e = some (.struct #[f0, f1, f2])) (hone : oneCellFields P #[f0, f1, f2] = true)
    (h0 : P.underlying f0.type = some (.int .i64)) (h1 : P.underlying f1.type = some (.int .i64)) (h2 : P.underlying f2.type = some (.int .i64)) {cs : List Value} (hl : cs.length = 3) {x : DataW H × List MemPlace} (h : DataW.trod enc P W b0 sp hd fuel e cs = some x) :
    ∃ c : Int × Int × Int, cs = [.int .i64 c.1, .int .i64 c.2.1, .int .i64 c.2.2] := by
  match cs, hl with
  | [c0, c1, c2], _ =>
    obtain ⟨y0, y1, y2, n, _, _, g0, g1, g2⟩ := trod_struct3 he h
    obtain ⟨o0, k0⟩ := hone_of hone 0 f0 rfl
    obtain ⟨o1, k1⟩ := hone_of hone 1 f1 rfl
    obtain ⟨o2, k2⟩ := hone_of hone 2 f2 rfl
    rw [o0, k0] at g0
    rw [o1, k1] at g1
    rw [o2, k2] at g2
    obtain ⟨n0, rfl⟩ := open_int1 h0 (c := c0) g0
    obtain ⟨n1, rfl⟩ := open_int1 h1 (c := c1) g1
    obtain ⟨n2, rfl⟩ := open_int1 h2 (c := c2) g2
    exact ⟨(n0, n1, n2), rfl⟩
/-- A slice of structs of three integers. -/
theorem open_clues {F : Nat → Nat} {W : World} {fuel : Nat} {t e : TypeId} {f0 f1 f2 : Field} (ht : P.underlying t = some (.slice e)) (he : P.underlying e = some (.struct #[f0, f1, f2])) (hone : oneCellFields P #[f0, f1, f2] = true) (hC : P.cellsOf e = 3)
    (h0 : P.underlying f0.type = some (.int .i64)) (h1 : P.underlying f1.type = some (.int .i64)) (h2 : P.underlying f2.type = some (.int .i64)) {v : Value} {x : DataW H × List MemPlace} (h : DataW.trod enc P W 0 (fun _ => true) true fuel t [v] = some x) :
    ∃ (cs : List (Int × Int × Int)) (m : Emb) (g : AH) (a : AV), Slc 3 encC g a cs ∧ RelV F m a v ∧ RelH F W.heap.size m g W ∧ cs.length < 2 ^ 63 := by
  rcases open_slice ht h with ⟨hv, _⟩ | ⟨a, len, cap, m, n, D, Pl, hv, hb, hl, hmax, hm, hx, hi⟩
  · simp at hv
    subst hv
    exact ⟨[], _, [], .nilS, Slc.nil, by simp only [RelV], rel_nothing F W, by simp⟩
  · simp at hv
    subst hv
    simp only [if_true] at hm
    subst hm
    rw [hC] at hi
    have hcell : ∀ i, i < m → ∃ c : Int × Int × Int, W.cell? (a.add (i * 3)) = some (.int .i64 c.1) ∧ W.cell? ((a.add (i * 3)).add 1) = some (.int .i64 c.2.1) ∧ W.cell? ((a.add (i * 3)).add 2) = some (.int .i64 c.2.2) := by
      intro i him
      obtain ⟨cs', hc, ht'⟩ := hi i him
      obtain ⟨_, hcl, hat⟩ := World.cells?_some hc
      obtain ⟨c, rfl⟩ := open_clue he hone h0 h1 h2 hcl ht'
      refine ⟨c, ?_, ?_, ?_⟩
      · simpa [Addr.add] using hat 0 (by omega)
      · simpa [Addr.add] using hat 1 (by omega)
      · simpa [Addr.add] using hat 2 (by omega)
    by_cases hz : m = 0
    · subst hz
      obtain rfl : len = 0 := by omega
      exact ⟨[], _, [], .empS, Slc.emp, by simp only [RelV]; exact ⟨a, rfl⟩, rel_nothing F W, by simp⟩
    · obtain ⟨c0, q0, _⟩ := hcell 0 (by omega)
      have hspot : a.spot = none := by
        unfold World.cell? at q0
        split at q0
        · split at q0
          · cases q0
          · rename_i hs; simpa [Addr.add] using hs
        · cases q0
      obtain ⟨blk, off, spot⟩ := a
      simp only at hspot
      subst hspot
      obtain ⟨C, ee, fr, hblk⟩ : ∃ C ee fr, W.heap[blk]? = some (.cells C ee fr) := by
        unfold World.cell? at q0
        split at q0
        · rename_i C ee fr hh; exact ⟨C, ee, fr, hh⟩
        · cases q0
      have hC' : ∀ i, i < m → ∃ c : Int × Int × Int, C[off + i * 3]? = some (.int .i64 c.1) ∧ C[off + i * 3 + 1]? = some (.int .i64 c.2.1) ∧ C[off + i * 3 + 2]? = some (.int .i64 c.2.2) := by
        intro i him
        obtain ⟨c, e1, e2, e3⟩ := hcell i him
        rw [Go.Deep.add_add] at e2 e3
        rw [cell_atA hblk] at e1 e2 e3
        exact ⟨c, e1, e2, e3⟩
      have hsize : off + m * 3 ≤ C.size := by
        obtain ⟨c, _, _, e3⟩ := hC' (m - 1) (by omega)
        have := (Array.getElem?_eq_some_iff.1 e3).1
        omega
      -- the elements
      have hel : ∀ l, l ≤ m → ∃ cs : List (Int × Int × Int), cs.length = l ∧ ∀ j x, (cs.flatMap encC)[j]? = some x → ∃ v, C[off + j]? = some v ∧ ∀ F m', RelV F m' x v := by
        intro l
        induction l with
        | zero => intro _; exact ⟨[], rfl, fun j x hx => by simp at hx⟩
        | succ l ih =>
          intro hlm
          obtain ⟨cs, hcs, hh⟩ := ih (by omega)
          obtain ⟨c, e1, e2, e3⟩ := hC' l (by omega)
          refine ⟨cs ++ [c], by simp [hcs], ?_⟩
          intro j x hx
          have hfl : (cs.flatMap encC).length = l * 3 := by rw [flat_len hlC, hcs]
          rw [List.flatMap_append] at hx
          by_cases hj : j < l * 3
          · rw [List.getElem?_append_left (by omega)] at hx
            exact hh j x hx
          · rw [List.getElem?_append_right (by omega), hfl] at hx
            simp only [List.flatMap_cons, List.flatMap_nil, List.append_nil, encC] at hx
            have hj3 : j - l * 3 = 0 ∨ j - l * 3 = 1 ∨ j - l * 3 = 2 := by
              have := (List.getElem?_eq_some_iff.1 hx).1
              simp at this
              omega
            rcases hj3 with e | e | e <;> rw [e] at hx <;> simp at hx <;> subst hx
            · exact ⟨_, (by rw [show off + j = off + l * 3 by omega]; exact e1), fun F m' => by simp only [RelV]⟩
            · exact ⟨_, (by rw [show off + j = off + l * 3 + 1 by omega]; exact e2), fun F m' => by simp only [RelV]⟩
            · exact ⟨_, (by rw [show off + j = off + l * 3 + 2 by omega]; exact e3), fun F m' => by simp only [RelV]⟩
      obtain ⟨cs, hcs, hh⟩ := hel len hl
      have hfl : (cs.flatMap encC).length = len * 3 := by rw [flat_len hlC, hcs]
      have hmx : maxLen < 2 ^ 63 := by decide
      refine ⟨cs, emb1 ⟨blk, off, 0, len * 3, C.size⟩, [.row (cs.flatMap encC) 0 0 true], .slice 0 0 0 len 3, ?_, ?_, ?_, by omega⟩
      · unfold Slc Sl
        refine ⟨rfl, hcs.symm, by rw [hfl, hcs], ?_⟩
        unfold rdRow
        simp only [List.getElem?_cons_zero]
        rw [if_pos (by rw [hfl, hcs]; omega), List.drop_zero, List.take_of_length_le (by rw [hfl, hcs]; exact Nat.le_refl _)]
      · simp only [RelV]
        exact ⟨⟨blk, off, 0, len * 3, C.size⟩, off, m, by simp [emb1], rfl, hl, .inr ⟨Nat.le_refl _, by simp, by simp, by simpa using hsize⟩⟩
      · refine rel_row (C := C) hblk rfl rfl hfl.symm (by simp only; omega) ?_
        intro j x hx
        obtain ⟨v, h3, h4⟩ := hh j x hx
        exact ⟨v, h3, h4 _ _⟩
/-- A struct of an integer and a slice of structs of three integers. -/
theorem open_puzzle {F : Nat → Nat} {W : World} {base : Nat} {t e : TypeId} {g0 g1 f0 f1 f2 : Field} (hp : P.underlying t = some (.struct #[g0, g1])) (honeP : oneCellFields P #[g0, g1] = true) (hCP : P.cellsOf t = 2) (hg0 : P.underlying g0.type = some (.int .i64)) (ht : P.underlying g1.type = some (.slice e))
    (he : P.underlying e = some (.struct #[f0, f1, f2])) (hone : oneCellFields P #[f0, f1, f2] = true) (hC : P.cellsOf e = 3)
    (h0 : P.underlying f0.type = some (.int .i64)) (h1 : P.underlying f1.type = some (.int .i64)) (h2 : P.underlying f2.type = some (.int .i64)) {v : Value} {d : DataW H} {p : List MemPlace} (hval : Value.okWide P W .any base t v) (h : DataW.Trod enc P W 0 (fun _ => true) true t v d p) :
    ∃ (n : Int) (cs : List (Int × Int × Int)) (m : Emb) (g : AH) (a : AV), Slc 3 encC g a cs ∧ RelV F m (.agg [.int .i64 n, a]) v ∧ RelH F W.heap.size m g W ∧ cs.length < 2 ^ 63 := by
  obtain ⟨v0, v1, y0, y1, n, rfl, _, _, q0, q1⟩ := open_agg2 hp honeP hCP hval h
  obtain ⟨n0, rfl⟩ := open_int1 hg0 q0
  obtain ⟨cs, m, g, a, k1, k2, k3, k4⟩ := open_clues (F := F) ht he hone hC h0 h1 h2 q1
  refine ⟨n0, cs, m, g, a, k1, ?_, k3, k4⟩
  simp only [RelV, RelL]
  exact ⟨_, rfl, _, _, rfl, rfl, _, _, rfl, k2, rfl⟩
theorem open_str {W : World} {base : Nat} {t : TypeId} (ht : P.underlying t = some .string) {v : Value} {d : DataW H} {p : List MemPlace} (hval : Value.okWide P W .any base t v) (h : DataW.Trod enc P W 0 (fun _ => true) true t v d p) : ∃ s : List UInt8, v = .string ⟨s.toArray⟩ ∧ s.length < 2 ^ 63 := by
  obtain ⟨s, rfl⟩ := okWide_string ht hval
  obtain ⟨fuel, h⟩ := h
  obtain ⟨s', h1, _, h3⟩ := DataW.trod_string ht h
  simp only [Value.cells, List.cons.injEq, and_true, Value.string.injEq] at h1
  subst h1
  refine ⟨s.data.toList, rfl, ?_⟩
  have : s.size = s.data.toList.length := rfl
  unfold maxLen at h3
  omega
end
end Go.Proofs.YthoibdfcaejgbaaDoor.Ab

/- LINES: what the reference's small functions answer. -/
namespace Go.Proofs.YthoibdfcaejgbaaDoor.Ab
open Go
set_option maxRecDepth 100000
set_option maxHeartbeats 4000000

theorem c_l1In (n lo hi : Int) {h : AH} {post : AV → AH → Prop} (hp : post (.bool (decide (lo ≤ n ∧ n ≤ hi))) h) : S 77 [.int .i64 n, .int .i64 lo, .int .i64 hi] h post k := by
  refine S_of rfl T77 ?_
  unfold fi77
  simp only [↓reduceIte, ↓zP, zW, WOp, evOp, evBin, binI, binSh, binS, evNil, keyIs, keyEq, mkv, AV.cells, AV.sc, optv, bnd, env, put, Env.get, Env.set, Env.del, Env.dels, Env.init, res1, resL, resV, fillP, splice, newRow, Nat.reduceEqDiff, Nat.reduceLT, Nat.reduceLeDiff, Nat.reduceAdd, Nat.reduceMul, Nat.reduceSub, Nat.reduceBEq, reduceCtorEq]
  apply WB_dec
  · intro h1
    simp only [↓reduceIte, ↓zP, zW, WOp, evOp, evBin, binI, binSh, binS, evNil, keyIs, keyEq, mkv, AV.cells, AV.sc, optv, bnd, env, put, Env.get, Env.set, Env.del, Env.dels, Env.init, res1, resL, resV, fillP, splice, newRow, Nat.reduceEqDiff, Nat.reduceLT, Nat.reduceLeDiff, Nat.reduceAdd, Nat.reduceMul, Nat.reduceSub, Nat.reduceBEq, reduceCtorEq, h1]
    simpa [h1] using hp
  · intro h1
    simp only [↓reduceIte, ↓zP, zW, WOp, evOp, evBin, binI, binSh, binS, evNil, keyIs, keyEq, mkv, AV.cells, AV.sc, optv, bnd, env, put, Env.get, Env.set, Env.del, Env.dels, Env.init, res1, resL, resV, fillP, splice, newRow, Nat.reduceEqDiff, Nat.reduceLT, Nat.reduceLeDiff, Nat.reduceAdd, Nat.reduceMul, Nat.reduceSub, Nat.reduceBEq, reduceCtorEq, h1]
    simpa [h1] using hp

def isSign (b : UInt8) : Bool := b == 84 || b == 70 || b == 46
def goodLine (s : List UInt8) : Bool := decide (1 ≤ s.length ∧ s.length ≤ 12) && s.all isSign

theorem u8_eq (b c : UInt8) {n : Int} (hc : (c.toNat : Int) = n) : (((b.toNat : Nat) : Int) == n) = (b == c) := by
  subst hc
  by_cases h : b = c
  · subst h; simp
  · have : ¬ ((b.toNat : Int) = (c.toNat : Int)) := fun hh => h (UInt8.toNat_inj.1 (by omega))
    rw [beq_eq_false_iff_ne.2 h, beq_eq_false_iff_ne.2 this]
theorem u8_ne (b c : UInt8) {n : Int} (hc : (c.toNat : Int) = n) : (((b.toNat : Nat) : Int) != n) = !(b == c) := by
  show (!(((b.toNat : Nat) : Int) == n)) = _
  rw [u8_eq b c hc]

theorem lp_liGood (s : List UInt8) (hs : s.length < 2 ^ 60) {h : AH} {R : X → Env → AH → Prop} : ∀ d i : Nat, i + d = s.length →
    ((s.drop i).all isSign = true → R (.exit 0) [] h) → ((s.drop i).all isSign = false → R .ret [(2, .bool false)] h) →
    Cx (.loop lp104_0) [(0, .str s), (3, .int .i64 i)] h R k k := by
  intro d
  induction d with
  | zero =>
    intro i hi h1 h2
    rw [w_loopb (c := lp104_0) (d := lb104_0) rfl]
    unfold lb104_0
    obtain rfl : i = s.length := by omega
    simp only [↓reduceIte, ↓zP, zW, WOp, evOp, evBin, binI, binSh, binS, evNil, keyIs, keyEq, mkv, AV.cells, AV.sc, optv, bnd, env, put, Env.get, Env.set, Env.del, Env.dels, Env.init, res1, resL, resV, fillP, splice, newRow, Nat.reduceEqDiff, Nat.reduceLT, Nat.reduceLeDiff, Nat.reduceAdd, Nat.reduceMul, Nat.reduceSub, Nat.reduceBEq, reduceCtorEq]
    exact h1 (by simp)
  | succ d ih =>
    intro i hi h1 h2
    rw [w_loopb (c := lp104_0) (d := lb104_0) rfl]
    unfold lb104_0
    have hlt : i < s.length := by omega
    have hlt' : (i : Int) < (s.length : Int) := by omega
    have hdrop : s.drop i = s.getD i 0 :: s.drop (i + 1) := by
      rw [List.drop_eq_getElem_cons hlt]; simp [List.getD_eq_getElem?_getD, hlt]
    generalize hb : s.getD i 0 = b at *
    have u1 := u8_ne b 84 (n := 84) rfl
    have u2 := u8_ne b 70 (n := 70) rfl
    have u3 := u8_ne b 46 (n := 46) rfl
    have hw : IntKind.i64.wrap ((i : Int) + 1) = ((i + 1 : Nat) : Int) := by rw [IntKind.wrap_i64]; omega
    cases e1 : (b == 84) <;> cases e2 : (b == 70) <;> cases e3 : (b == 46) <;>
      simp only [↓reduceIte, ↓zP, zW, WOp, evOp, evBin, binI, binSh, binS, evNil, keyIs, keyEq, mkv, AV.cells, AV.sc, optv, bnd, env, put, Env.get, Env.set, Env.del, Env.dels, Env.init, res1, resL, resV, fillP, splice, newRow, Nat.reduceEqDiff, Nat.reduceLT, Nat.reduceLeDiff, Nat.reduceAdd, Nat.reduceMul, Nat.reduceSub, Nat.reduceBEq, reduceCtorEq, hlt', hb, u1, u2, u3, e1, e2, e3, hw] <;> first
      | (rw [w_loopn (c := lp104_0) rfl]
         simp only [↓reduceIte, ↓zP, zW, WOp, evOp, evBin, binI, binSh, binS, evNil, keyIs, keyEq, mkv, AV.cells, AV.sc, optv, bnd, env, put, Env.get, Env.set, Env.del, Env.dels, Env.init, res1, resL, resV, fillP, splice, newRow, Nat.reduceEqDiff, Nat.reduceLT, Nat.reduceLeDiff, Nat.reduceAdd, Nat.reduceMul, Nat.reduceSub, Nat.reduceBEq, reduceCtorEq]
         exact ih (i + 1) (by omega) (fun hh => h1 (by rw [hdrop, List.all_cons, hh]; simp [isSign, e1, e2, e3])) (fun hh => h2 (by rw [hdrop, List.all_cons, hh]; simp)))
      | exact h2 (by rw [hdrop, List.all_cons]; simp [isSign, e1, e2, e3])

theorem c_liGood (s : List UInt8) {h : AH} {post : AV → AH → Prop} (hs : s.length < 2 ^ 60) (hp : post (.bool (goodLine s)) h) : S 104 [.str s] h post k := by
  refine S_of rfl T104 ?_
  unfold fi104
  simp only [↓reduceIte, ↓zP, zW, WOp, evOp, evBin, binI, binSh, binS, evNil, keyIs, keyEq, mkv, AV.cells, AV.sc, optv, bnd, env, put, Env.get, Env.set, Env.del, Env.dels, Env.init, res1, resL, resV, fillP, splice, newRow, Nat.reduceEqDiff, Nat.reduceLT, Nat.reduceLeDiff, Nat.reduceAdd, Nat.reduceMul, Nat.reduceSub, Nat.reduceBEq, reduceCtorEq]
  refine c_l1In _ _ _ ?_
  simp only [↓reduceIte, ↓zP, zW, WOp, evOp, evBin, binI, binSh, binS, evNil, keyIs, keyEq, mkv, AV.cells, AV.sc, optv, bnd, env, put, Env.get, Env.set, Env.del, Env.dels, Env.init, res1, resL, resV, fillP, splice, newRow, Nat.reduceEqDiff, Nat.reduceLT, Nat.reduceLeDiff, Nat.reduceAdd, Nat.reduceMul, Nat.reduceSub, Nat.reduceBEq, reduceCtorEq]
  refine WB_cases ?_ ?_
  · intro e
    simp only [↓reduceIte, ↓zP, zW, WOp, evOp, evBin, binI, binSh, binS, evNil, keyIs, keyEq, mkv, AV.cells, AV.sc, optv, bnd, env, put, Env.get, Env.set, Env.del, Env.dels, Env.init, res1, resL, resV, fillP, splice, newRow, Nat.reduceEqDiff, Nat.reduceLT, Nat.reduceLeDiff, Nat.reduceAdd, Nat.reduceMul, Nat.reduceSub, Nat.reduceBEq, reduceCtorEq, e]
    have : goodLine s = false := by
      simp only [goodLine]
      simp at e ⊢
      omega
    rw [this] at hp
    exact hp
  · intro e
    simp only [↓reduceIte, ↓zP, zW, WOp, evOp, evBin, binI, binSh, binS, evNil, keyIs, keyEq, mkv, AV.cells, AV.sc, optv, bnd, env, put, Env.get, Env.set, Env.del, Env.dels, Env.init, res1, resL, resV, fillP, splice, newRow, Nat.reduceEqDiff, Nat.reduceLT, Nat.reduceLeDiff, Nat.reduceAdd, Nat.reduceMul, Nat.reduceSub, Nat.reduceBEq, reduceCtorEq, e]
    have hlen : 1 ≤ s.length ∧ s.length ≤ 12 := by
      simp at e
      omega
    refine lp_liGood s hs s.length 0 (by omega) ?_ ?_
    · intro hall
      simp only [↓reduceIte, ↓zP, zW, WOp, evOp, evBin, binI, binSh, binS, evNil, keyIs, keyEq, mkv, AV.cells, AV.sc, optv, bnd, env, put, Env.get, Env.set, Env.del, Env.dels, Env.init, res1, resL, resV, fillP, splice, newRow, Nat.reduceEqDiff, Nat.reduceLT, Nat.reduceLeDiff, Nat.reduceAdd, Nat.reduceMul, Nat.reduceSub, Nat.reduceBEq, reduceCtorEq]
      have : goodLine s = true := by simp only [goodLine]; rw [List.drop_zero] at hall; rw [hall]; simp [hlen]
      rw [this] at hp
      exact hp
    · intro hall
      simp only [↓reduceIte, ↓zP, zW, WOp, evOp, evBin, binI, binSh, binS, evNil, keyIs, keyEq, mkv, AV.cells, AV.sc, optv, bnd, env, put, Env.get, Env.set, Env.del, Env.dels, Env.init, res1, resL, resV, fillP, splice, newRow, Nat.reduceEqDiff, Nat.reduceLT, Nat.reduceLeDiff, Nat.reduceAdd, Nat.reduceMul, Nat.reduceSub, Nat.reduceBEq, reduceCtorEq]
      have : goodLine s = false := by simp only [goodLine]; rw [List.drop_zero] at hall; rw [hall]; simp
      rw [this] at hp
      exact hp

end Go.Proofs.YthoibdfcaejgbaaDoor.Ab

/- LINES AND MOVES: the program's small functions. -/
namespace Go.Proofs.YthoibdfcaejgbaaDoor.Ab
open Go
set_option maxRecDepth 100000
set_option maxHeartbeats 4000000

abbrev by8 (b : UInt8) : AV := .int .u8 b.toNat
theorem c_within (n lo hi : Int) {h : AH} {post : AV → AH → Prop} (hp : post (.bool (decide (lo ≤ n ∧ n ≤ hi))) h) : S 74 [.int .i64 n, .int .i64 lo, .int .i64 hi] h post k := by
  refine S_of rfl T74 ?_
  unfold fi74
  simp only [↓reduceIte, ↓zP, zW, WOp, evOp, evBin, binI, binSh, binS, evNil, keyIs, keyEq, mkv, AV.cells, AV.sc, optv, bnd, env, put, Env.get, Env.set, Env.del, Env.dels, Env.init, res1, resL, resV, fillP, splice, newRow, Nat.reduceEqDiff, Nat.reduceLT, Nat.reduceLeDiff, Nat.reduceAdd, Nat.reduceMul, Nat.reduceSub, Nat.reduceBEq, reduceCtorEq]
  apply WB_dec
  · intro h1
    simp only [↓reduceIte, ↓zP, zW, WOp, evOp, evBin, binI, binSh, binS, evNil, keyIs, keyEq, mkv, AV.cells, AV.sc, optv, bnd, env, put, Env.get, Env.set, Env.del, Env.dels, Env.init, res1, resL, resV, fillP, splice, newRow, Nat.reduceEqDiff, Nat.reduceLT, Nat.reduceLeDiff, Nat.reduceAdd, Nat.reduceMul, Nat.reduceSub, Nat.reduceBEq, reduceCtorEq, h1]
    simpa [h1] using hp
  · intro h1
    simp only [↓reduceIte, ↓zP, zW, WOp, evOp, evBin, binI, binSh, binS, evNil, keyIs, keyEq, mkv, AV.cells, AV.sc, optv, bnd, env, put, Env.get, Env.set, Env.del, Env.dels, Env.init, res1, resL, resV, fillP, splice, newRow, Nat.reduceEqDiff, Nat.reduceLT, Nat.reduceLeDiff, Nat.reduceAdd, Nat.reduceMul, Nat.reduceSub, Nat.reduceBEq, reduceCtorEq, h1]
    simpa [h1] using hp

def stepB (b : UInt8) : Int := if b == 84 then 1 else if b == 70 then -1 else 0
def otherB (b : UInt8) : UInt8 := if b == 84 then 70 else if b == 70 then 84 else b
def atB (w : List UInt8) (i : Int) : UInt8 := if 0 ≤ i ∧ i < w.length then w.getD i.toNat 0 else 0

theorem c_stepOf (b : UInt8) {h : AH} {post : AV → AH → Prop} (hp : post (.int .i64 (stepB b)) h) : S 103 [by8 b] h post k := by
  refine S_of rfl T103 ?_
  unfold fi103
  have u1 := u8_eq b 84 (n := 84) rfl
  have u2 := u8_eq b 70 (n := 70) rfl
  cases e1 : (b == 84) <;> cases e2 : (b == 70) <;> simp only [stepB, e1, e2, if_true, if_false, Bool.false_eq_true] at hp <;> simp only [↓reduceIte, ↓zP, zW, WOp, evOp, evBin, binI, binSh, binS, evNil, keyIs, keyEq, mkv, AV.cells, AV.sc, optv, bnd, env, put, Env.get, Env.set, Env.del, Env.dels, Env.init, res1, resL, resV, fillP, splice, newRow, Nat.reduceEqDiff, Nat.reduceLT, Nat.reduceLeDiff, Nat.reduceAdd, Nat.reduceMul, Nat.reduceSub, Nat.reduceBEq, reduceCtorEq, u1, u2, e1, e2] <;> exact hp

theorem c_other (b : UInt8) {h : AH} {post : AV → AH → Prop} (hp : post (by8 (otherB b)) h) : S 109 [by8 b] h post k := by
  refine S_of rfl T109 ?_
  unfold fi109
  have u1 := u8_eq b 84 (n := 84) rfl
  have u2 := u8_eq b 70 (n := 70) rfl
  cases e1 : (b == 84) <;> cases e2 : (b == 70) <;> simp only [otherB, e1, e2, if_true, if_false, Bool.false_eq_true] at hp <;> simp only [↓reduceIte, ↓zP, zW, WOp, evOp, evBin, binI, binSh, binS, evNil, keyIs, keyEq, mkv, AV.cells, AV.sc, optv, bnd, env, put, Env.get, Env.set, Env.del, Env.dels, Env.init, res1, resL, resV, fillP, splice, newRow, Nat.reduceEqDiff, Nat.reduceLT, Nat.reduceLeDiff, Nat.reduceAdd, Nat.reduceMul, Nat.reduceSub, Nat.reduceBEq, reduceCtorEq, u1, u2, e1, e2] <;> exact hp

theorem c_at (w : List UInt8) (i : Int) {h : AH} {post : AV → AH → Prop} (hp : post (by8 (atB w i)) h) : S 125 [.str w, .int .i64 i] h post k := by
  refine S_of rfl T125 ?_
  unfold fi125
  unfold atB at hp
  by_cases h1 : i < 0
  · have h2 : ¬ (0 ≤ i ∧ i < w.length) := by omega
    rw [if_neg h2] at hp
    simp only [↓reduceIte, ↓zP, zW, WOp, evOp, evBin, binI, binSh, binS, evNil, keyIs, keyEq, mkv, AV.cells, AV.sc, optv, bnd, env, put, Env.get, Env.set, Env.del, Env.dels, Env.init, res1, resL, resV, fillP, splice, newRow, Nat.reduceEqDiff, Nat.reduceLT, Nat.reduceLeDiff, Nat.reduceAdd, Nat.reduceMul, Nat.reduceSub, Nat.reduceBEq, reduceCtorEq, h1]
    exact hp
  · by_cases h2 : i ≥ w.length
    · have h3 : ¬ (0 ≤ i ∧ i < w.length) := by omega
      rw [if_neg h3] at hp
      simp only [↓reduceIte, ↓zP, zW, WOp, evOp, evBin, binI, binSh, binS, evNil, keyIs, keyEq, mkv, AV.cells, AV.sc, optv, bnd, env, put, Env.get, Env.set, Env.del, Env.dels, Env.init, res1, resL, resV, fillP, splice, newRow, Nat.reduceEqDiff, Nat.reduceLT, Nat.reduceLeDiff, Nat.reduceAdd, Nat.reduceMul, Nat.reduceSub, Nat.reduceBEq, reduceCtorEq, h1, h2]
      exact hp
    · have h3 : (0 ≤ i ∧ i < w.length) := by omega
      rw [if_pos h3] at hp
      simp only [↓reduceIte, ↓zP, zW, WOp, evOp, evBin, binI, binSh, binS, evNil, keyIs, keyEq, mkv, AV.cells, AV.sc, optv, bnd, env, put, Env.get, Env.set, Env.del, Env.dels, Env.init, res1, resL, resV, fillP, splice, newRow, Nat.reduceEqDiff, Nat.reduceLT, Nat.reduceLeDiff, Nat.reduceAdd, Nat.reduceMul, Nat.reduceSub, Nat.reduceBEq, reduceCtorEq, h1, h2]
      exact ⟨h3, hp⟩

def goalB (w : List UInt8) (i : Nat) : Option Int :=
  if stepB (w.getD i 0) == 0 then none
  else if atB w (i + stepB (w.getD i 0)) == 46 then some (i + stepB (w.getD i 0))
  else if (atB w (i + stepB (w.getD i 0)) == otherB (w.getD i 0)) && (atB w (i + 2 * stepB (w.getD i 0)) == 46) then some (i + 2 * stepB (w.getD i 0))
  else none
def goalV (w : List UInt8) (i : Nat) : AV := match goalB w i with
  | some t => .tup [.int .i64 t, .bool true]
  | none => .tup [.int .i64 0, .bool false]

theorem stepB_range (b : UInt8) : stepB b = 0 ∨ stepB b = 1 ∨ stepB b = -1 := by
  unfold stepB; split
  · simp
  · split <;> simp
theorem wrap_id {n : Int} (h1 : -9223372036854775808 ≤ n) (h2 : n ≤ 9223372036854775807) : IntKind.i64.wrap n = n := by rw [IntKind.wrap_i64]; omega

theorem c_goal (w : List UInt8) (i : Nat) (hi : i < w.length) (hw : w.length < 2 ^ 60) {h : AH} {post : AV → AH → Prop} (hp : post (goalV w i) h) : S 127 [.str w, .int .i64 i] h post k := by
  refine S_of rfl T127 ?_
  unfold fi127
  have hi' : (i : Int) < (w.length : Int) := by omega
  simp only [↓reduceIte, ↓zP, zW, WOp, evOp, evBin, binI, binSh, binS, evNil, keyIs, keyEq, mkv, AV.cells, AV.sc, optv, bnd, env, put, Env.get, Env.set, Env.del, Env.dels, Env.init, res1, resL, resV, fillP, splice, newRow, Nat.reduceEqDiff, Nat.reduceLT, Nat.reduceLeDiff, Nat.reduceAdd, Nat.reduceMul, Nat.reduceSub, Nat.reduceBEq, reduceCtorEq, hi']
  refine c_stepOf _ ?_
  simp only [↓reduceIte, ↓zP, zW, WOp, evOp, evBin, binI, binSh, binS, evNil, keyIs, keyEq, mkv, AV.cells, AV.sc, optv, bnd, env, put, Env.get, Env.set, Env.del, Env.dels, Env.init, res1, resL, resV, fillP, splice, newRow, Nat.reduceEqDiff, Nat.reduceLT, Nat.reduceLeDiff, Nat.reduceAdd, Nat.reduceMul, Nat.reduceSub, Nat.reduceBEq, reduceCtorEq]
  have hr := stepB_range (w.getD i 0)
  generalize hd : stepB (w.getD i 0) = d at *
  have w1 : IntKind.i64.wrap ((i : Int) + d) = i + d := wrap_id (by omega) (by omega)
  have w2 : IntKind.i64.wrap (2 * d) = 2 * d := wrap_id (by omega) (by omega)
  have w3 : IntKind.i64.wrap ((i : Int) + 2 * d) = i + 2 * d := wrap_id (by omega) (by omega)
  cases e0 : (d == 0)
  · simp only [↓reduceIte, ↓zP, zW, WOp, evOp, evBin, binI, binSh, binS, evNil, keyIs, keyEq, mkv, AV.cells, AV.sc, optv, bnd, env, put, Env.get, Env.set, Env.del, Env.dels, Env.init, res1, resL, resV, fillP, splice, newRow, Nat.reduceEqDiff, Nat.reduceLT, Nat.reduceLeDiff, Nat.reduceAdd, Nat.reduceMul, Nat.reduceSub, Nat.reduceBEq, reduceCtorEq, e0, w1]
    refine c_at _ _ ?_
    have u1 := u8_eq (atB w (i + d)) 46 (n := 46) rfl
    cases e1 : (atB w (i + d) == 46)
    · simp only [↓reduceIte, ↓zP, zW, WOp, evOp, evBin, binI, binSh, binS, evNil, keyIs, keyEq, mkv, AV.cells, AV.sc, optv, bnd, env, put, Env.get, Env.set, Env.del, Env.dels, Env.init, res1, resL, resV, fillP, splice, newRow, Nat.reduceEqDiff, Nat.reduceLT, Nat.reduceLeDiff, Nat.reduceAdd, Nat.reduceMul, Nat.reduceSub, Nat.reduceBEq, reduceCtorEq, u1, e1, w1]
      refine c_at _ _ ?_
      simp only [↓reduceIte, ↓zP, zW, WOp, evOp, evBin, binI, binSh, binS, evNil, keyIs, keyEq, mkv, AV.cells, AV.sc, optv, bnd, env, put, Env.get, Env.set, Env.del, Env.dels, Env.init, res1, resL, resV, fillP, splice, newRow, Nat.reduceEqDiff, Nat.reduceLT, Nat.reduceLeDiff, Nat.reduceAdd, Nat.reduceMul, Nat.reduceSub, Nat.reduceBEq, reduceCtorEq, hi']
      refine c_other _ ?_
      have u2 := u8_eq (atB w (i + d)) (otherB (w.getD i 0)) rfl
      cases e2 : (atB w (i + d) == otherB (w.getD i 0))
      · simp only [↓reduceIte, ↓zP, zW, WOp, evOp, evBin, binI, binSh, binS, evNil, keyIs, keyEq, mkv, AV.cells, AV.sc, optv, bnd, env, put, Env.get, Env.set, Env.del, Env.dels, Env.init, res1, resL, resV, fillP, splice, newRow, Nat.reduceEqDiff, Nat.reduceLT, Nat.reduceLeDiff, Nat.reduceAdd, Nat.reduceMul, Nat.reduceSub, Nat.reduceBEq, reduceCtorEq, u2, e2]
        simp only [goalV, goalB, hd, e0, e1, e2, if_true, if_false, Bool.false_eq_true, Bool.false_and] at hp
        exact hp
      · simp only [↓reduceIte, ↓zP, zW, WOp, evOp, evBin, binI, binSh, binS, evNil, keyIs, keyEq, mkv, AV.cells, AV.sc, optv, bnd, env, put, Env.get, Env.set, Env.del, Env.dels, Env.init, res1, resL, resV, fillP, splice, newRow, Nat.reduceEqDiff, Nat.reduceLT, Nat.reduceLeDiff, Nat.reduceAdd, Nat.reduceMul, Nat.reduceSub, Nat.reduceBEq, reduceCtorEq, u2, e2, w2, w3]
        refine c_at _ _ ?_
        have u3 := u8_eq (atB w (i + 2 * d)) 46 (n := 46) rfl
        cases e3 : (atB w (i + 2 * d) == 46)
        · simp only [↓reduceIte, ↓zP, zW, WOp, evOp, evBin, binI, binSh, binS, evNil, keyIs, keyEq, mkv, AV.cells, AV.sc, optv, bnd, env, put, Env.get, Env.set, Env.del, Env.dels, Env.init, res1, resL, resV, fillP, splice, newRow, Nat.reduceEqDiff, Nat.reduceLT, Nat.reduceLeDiff, Nat.reduceAdd, Nat.reduceMul, Nat.reduceSub, Nat.reduceBEq, reduceCtorEq, u3, e3]
          simp only [goalV, goalB, hd, e0, e1, e2, e3, if_true, if_false, Bool.false_eq_true, Bool.and_false] at hp
          exact hp
        · simp only [↓reduceIte, ↓zP, zW, WOp, evOp, evBin, binI, binSh, binS, evNil, keyIs, keyEq, mkv, AV.cells, AV.sc, optv, bnd, env, put, Env.get, Env.set, Env.del, Env.dels, Env.init, res1, resL, resV, fillP, splice, newRow, Nat.reduceEqDiff, Nat.reduceLT, Nat.reduceLeDiff, Nat.reduceAdd, Nat.reduceMul, Nat.reduceSub, Nat.reduceBEq, reduceCtorEq, u3, e3, w2, w3]
          simp only [goalV, goalB, hd, e0, e1, e2, e3, if_true, if_false, Bool.false_eq_true, Bool.and_true] at hp
          exact hp
    · simp only [↓reduceIte, ↓zP, zW, WOp, evOp, evBin, binI, binSh, binS, evNil, keyIs, keyEq, mkv, AV.cells, AV.sc, optv, bnd, env, put, Env.get, Env.set, Env.del, Env.dels, Env.init, res1, resL, resV, fillP, splice, newRow, Nat.reduceEqDiff, Nat.reduceLT, Nat.reduceLeDiff, Nat.reduceAdd, Nat.reduceMul, Nat.reduceSub, Nat.reduceBEq, reduceCtorEq, u1, e1, w1]
      simp only [goalV, goalB, hd, e0, e1, if_true, if_false, Bool.false_eq_true] at hp
      exact hp
  · simp only [↓reduceIte, ↓zP, zW, WOp, evOp, evBin, binI, binSh, binS, evNil, keyIs, keyEq, mkv, AV.cells, AV.sc, optv, bnd, env, put, Env.get, Env.set, Env.del, Env.dels, Env.init, res1, resL, resV, fillP, splice, newRow, Nat.reduceEqDiff, Nat.reduceLT, Nat.reduceLeDiff, Nat.reduceAdd, Nat.reduceMul, Nat.reduceSub, Nat.reduceBEq, reduceCtorEq, e0]
    simp only [goalV, goalB, hd, e0, if_true] at hp
    exact hp

end Go.Proofs.YthoibdfcaejgbaaDoor.Ab

/- MOVES of a line: what the program lists. -/
namespace Go.Proofs.YthoibdfcaejgbaaDoor.Ab
open Go
set_option maxRecDepth 100000
set_option maxHeartbeats 4000000

def mcells (l : List (Int × Int)) : List AV := l.flatMap fun m => [.int .i64 m.1, .int .i64 m.2]
theorem mcells_app (a b : List (Int × Int)) : mcells (a ++ b) = mcells a ++ mcells b := by simp [mcells]
def hasB (s : List UInt8) (c : UInt8) : Bool := decide (0 ≤ Go.Lib.indexByte s c)
def moveB (w kinds : List UInt8) (i : Nat) : List (Int × Int) := match goalB w i with
  | some t => if hasB kinds (w.getD i 0) then [((i : Int), t)] else []
  | none => []
def movesB (w kinds : List UInt8) : List (Int × Int) := (List.range w.length).flatMap (moveB w kinds)

theorem sub_one (w : List UInt8) (i : Nat) (hi : i < w.length) : (w.drop i).take (i + 1 - i) = [w.getD i 0] := by
  have h1 : w.drop i = w.getD i 0 :: w.drop (i + 1) := by
    rw [List.drop_eq_getElem_cons hi]; simp [List.getD_eq_getElem?_getD, hi]
  rw [show i + 1 - i = 1 by omega, h1]; rfl

theorem lp_moves (w kinds : List UInt8) (hw : w.length < 2 ^ 30) (h0 : AH) {R : X → Env → AH → Prop} : ∀ (d i : Nat) (o : AV) (l : List (Int × Int)) (h : AH), i + d = w.length → Own 2 h0 h o l.length (mcells l) → Pre h0 h → l.length ≤ i →
    (∀ o' h', Own 2 h0 h' o' (l ++ (List.range' i d).flatMap (moveB w kinds)).length (mcells (l ++ (List.range' i d).flatMap (moveB w kinds))) → Pre h0 h' → R (.exit 0) [(5, o')] h') →
    Cx (.loop lp105_0) [(0, .str w), (1, .str kinds), (5, o), (11, .int .i64 w.length), (12, .int .i64 i)] h R k k := by
  intro d
  induction d with
  | zero =>
    intro i o l h hi ho hp hl hR
    rw [w_loopb (c := lp105_0) (d := lb105_0) rfl]
    unfold lb105_0
    obtain rfl : i = w.length := by omega
    simp only [↓reduceIte, ↓zP, zW, WOp, evOp, evBin, binI, binSh, binS, evNil, keyIs, keyEq, mkv, AV.cells, AV.sc, optv, bnd, env, put, Env.get, Env.set, Env.del, Env.dels, Env.init, res1, resL, resV, fillP, splice, newRow, Nat.reduceEqDiff, Nat.reduceLT, Nat.reduceLeDiff, Nat.reduceAdd, Nat.reduceMul, Nat.reduceSub, Nat.reduceBEq, reduceCtorEq]
    exact hR o h (by simpa using ho) hp
  | succ d ih =>
    intro i o l h hi ho hp hl hR
    rw [w_loopb (c := lp105_0) (d := lb105_0) rfl]
    unfold lb105_0
    have hlt : (i : Int) < (w.length : Int) := by omega
    have hw1 : IntKind.i64.wrap ((i : Int) + 1) = ((i + 1 : Nat) : Int) := by rw [IntKind.wrap_i64]; omega
    have hb1 : ((i + 1 : Nat) : Int) ≤ (w.length : Int) := by omega
    have hb2 : (i : Int) ≤ ((i + 1 : Nat) : Int) := by omega
    simp only [↓reduceIte, ↓zP, zW, WOp, evOp, evBin, binI, binSh, binS, evNil, keyIs, keyEq, mkv, AV.cells, AV.sc, optv, bnd, env, put, Env.get, Env.set, Env.del, Env.dels, Env.init, res1, resL, resV, fillP, splice, newRow, Nat.reduceEqDiff, Nat.reduceLT, Nat.reduceLeDiff, Nat.reduceAdd, Nat.reduceMul, Nat.reduceSub, Nat.reduceBEq, reduceCtorEq, hlt]
    refine c_goal w i (by omega) (by omega) ?_
    have hm : moveB w kinds i = match goalB w i with
      | some t => if hasB kinds (w.getD i 0) then [((i : Int), t)] else []
      | none => [] := rfl
    unfold goalV
    have go : ∀ (o' : AV) (h' : AH) (l' : List (Int × Int)), l' = l ++ moveB w kinds i → l'.length ≤ i + 1 → Own 2 h0 h' o' l'.length (mcells l') → Pre h0 h' →
        Cx (.loop lp105_0) [(0, .str w), (1, .str kinds), (5, o'), (11, .int .i64 w.length), (12, .int .i64 ((i + 1 : Nat) : Int))] h' R k k := by
      rintro o' h' l' rfl hl' ho' hp'
      refine ih (i + 1) o' _ h' (by omega) ho' hp' hl' ?_
      intro o2 h2 ho2 hp2
      refine hR o2 h2 ?_ hp2
      rw [List.range'_succ, List.flatMap_cons, ← List.append_assoc]
      exact ho2
    cases hg : goalB w i with
    | none =>
      rw [hg] at hm
      simp only [↓reduceIte, ↓zP, zW, WOp, evOp, evBin, binI, binSh, binS, evNil, keyIs, keyEq, mkv, AV.cells, AV.sc, optv, bnd, env, put, Env.get, Env.set, Env.del, Env.dels, Env.init, res1, resL, resV, fillP, splice, newRow, Nat.reduceEqDiff, Nat.reduceLT, Nat.reduceLeDiff, Nat.reduceAdd, Nat.reduceMul, Nat.reduceSub, Nat.reduceBEq, reduceCtorEq, hw1]
      rw [w_loopn (c := lp105_0) rfl]
      simp only [↓reduceIte, ↓zP, zW, WOp, evOp, evBin, binI, binSh, binS, evNil, keyIs, keyEq, mkv, AV.cells, AV.sc, optv, bnd, env, put, Env.get, Env.set, Env.del, Env.dels, Env.init, res1, resL, resV, fillP, splice, newRow, Nat.reduceEqDiff, Nat.reduceLT, Nat.reduceLeDiff, Nat.reduceAdd, Nat.reduceMul, Nat.reduceSub, Nat.reduceBEq, reduceCtorEq]
      exact go o h l (by rw [hm]; simp) (by omega) ho hp
    | some t =>
      rw [hg] at hm
      simp only [↓reduceIte, ↓zP, zW, WOp, evOp, evBin, binI, binSh, binS, evNil, keyIs, keyEq, mkv, AV.cells, AV.sc, optv, bnd, env, put, Env.get, Env.set, Env.del, Env.dels, Env.init, res1, resL, resV, fillP, splice, newRow, Nat.reduceEqDiff, Nat.reduceLT, Nat.reduceLeDiff, Nat.reduceAdd, Nat.reduceMul, Nat.reduceSub, Nat.reduceBEq, reduceCtorEq, hw1, hb1, hb2, Int.natCast_nonneg, sub_one w i (by omega)]
      refine S_ext rfl rfl ?_
      cases hk : hasB kinds (w.getD i 0)
      · have hk' := hk
        unfold hasB at hk'
        simp only [↓reduceIte, ↓zP, zW, WOp, evOp, evBin, binI, binSh, binS, evNil, keyIs, keyEq, mkv, AV.cells, AV.sc, optv, bnd, env, put, Env.get, Env.set, Env.del, Env.dels, Env.init, res1, resL, resV, fillP, splice, newRow, Nat.reduceEqDiff, Nat.reduceLT, Nat.reduceLeDiff, Nat.reduceAdd, Nat.reduceMul, Nat.reduceSub, Nat.reduceBEq, reduceCtorEq, hk', hw1]
        rw [w_loopn (c := lp105_0) rfl]
        simp only [↓reduceIte, ↓zP, zW, WOp, evOp, evBin, binI, binSh, binS, evNil, keyIs, keyEq, mkv, AV.cells, AV.sc, optv, bnd, env, put, Env.get, Env.set, Env.del, Env.dels, Env.init, res1, resL, resV, fillP, splice, newRow, Nat.reduceEqDiff, Nat.reduceLT, Nat.reduceLeDiff, Nat.reduceAdd, Nat.reduceMul, Nat.reduceSub, Nat.reduceBEq, reduceCtorEq]
        exact go o h l (by rw [hm]; simp only [hk, Bool.false_eq_true, if_false, List.append_nil]) (by omega) ho hp
      · have hk' := hk
        unfold hasB at hk'
        simp only [↓reduceIte, ↓zP, zW, WOp, evOp, evBin, binI, binSh, binS, evNil, keyIs, keyEq, mkv, AV.cells, AV.sc, optv, bnd, env, put, Env.get, Env.set, Env.del, Env.dels, Env.init, res1, resL, resV, fillP, splice, newRow, Nat.reduceEqDiff, Nat.reduceLT, Nat.reduceLeDiff, Nat.reduceAdd, Nat.reduceMul, Nat.reduceSub, Nat.reduceBEq, reduceCtorEq, hk', hw1]
        obtain ⟨o', h', ha, hown, hpre⟩ := ap_own (ho.pre (Pre.push h (.row [.int .i64 i, .int .i64 t] 0 0 false))) (hp.trans (Pre.push _ _)) (q := 1) (vs := [.int .i64 i, .int .i64 t]) rfl rfl (by unfold room; omega)
        simp only [rdRow_push _ _ _ (show 2 = [AV.int .i64 (i : Int), AV.int .i64 t].length from rfl), ha, ↓reduceIte, ↓zP, zW, WOp, evOp, evBin, binI, binSh, binS, evNil, keyIs, keyEq, mkv, AV.cells, AV.sc, optv, bnd, env, put, Env.get, Env.set, Env.del, Env.dels, Env.init, res1, resL, resV, fillP, splice, newRow, Nat.reduceEqDiff, Nat.reduceLT, Nat.reduceLeDiff, Nat.reduceAdd, Nat.reduceMul, Nat.reduceSub, Nat.reduceBEq, reduceCtorEq, hw1]
        rw [w_loopn (c := lp105_0) rfl]
        simp only [↓reduceIte, ↓zP, zW, WOp, evOp, evBin, binI, binSh, binS, evNil, keyIs, keyEq, mkv, AV.cells, AV.sc, optv, bnd, env, put, Env.get, Env.set, Env.del, Env.dels, Env.init, res1, resL, resV, fillP, splice, newRow, Nat.reduceEqDiff, Nat.reduceLT, Nat.reduceLeDiff, Nat.reduceAdd, Nat.reduceMul, Nat.reduceSub, Nat.reduceBEq, reduceCtorEq]
        refine go o' h' (l ++ [((i : Int), t)]) (by rw [hm]; simp only [hk, if_true]) (by simp; omega) ?_ hpre
        rw [mcells_app, List.length_append]
        exact hown

theorem c_moves (w kinds : List UInt8) (hw : w.length < 2 ^ 30) {h : AH} {post : AV → AH → Prop} (hp : ∀ v h', Own 2 h h' v (movesB w kinds).length (mcells (movesB w kinds)) → Pre h h' → post v h') : S 105 [.str w, .str kinds] h post k := by
  refine S_of rfl T105 ?_
  unfold fi105
  simp only [↓reduceIte, ↓zP, zW, WOp, evOp, evBin, binI, binSh, binS, evNil, keyIs, keyEq, mkv, AV.cells, AV.sc, optv, bnd, env, put, Env.get, Env.set, Env.del, Env.dels, Env.init, res1, resL, resV, fillP, splice, newRow, Nat.reduceEqDiff, Nat.reduceLT, Nat.reduceLeDiff, Nat.reduceAdd, Nat.reduceMul, Nat.reduceSub, Nat.reduceBEq, reduceCtorEq]
  refine lp_moves w kinds hw h w.length 0 .empS [] h (by omega) (by simp [Own, mcells]) (Pre.refl h) (by simp) ?_
  intro o' h' ho hpre
  simp only [↓reduceIte, ↓zP, zW, WOp, evOp, evBin, binI, binSh, binS, evNil, keyIs, keyEq, mkv, AV.cells, AV.sc, optv, bnd, env, put, Env.get, Env.set, Env.del, Env.dels, Env.init, res1, resL, resV, fillP, splice, newRow, Nat.reduceEqDiff, Nat.reduceLT, Nat.reduceLeDiff, Nat.reduceAdd, Nat.reduceMul, Nat.reduceSub, Nat.reduceBEq, reduceCtorEq]
  refine hp o' h' ?_ hpre
  rw [List.nil_append, ← List.range_eq_range'] at ho
  exact ho
end Go.Proofs.YthoibdfcaejgbaaDoor.Ab

/- LINES: counts, line tests. -/
namespace Go.Proofs.YthoibdfcaejgbaaDoor.Ab
open Go
set_option maxRecDepth 100000
set_option maxHeartbeats 4000000

theorem c_count (w : List UInt8) {h : AH} {post : AV → AH → Prop} (hp : post (.tup [.int .i64 (w.count 84 : Nat), .int .i64 (w.count 46 : Nat), .int .i64 (w.count 70 : Nat)]) h) : S 189 [.str w] h post k := by
  refine S_of rfl T189 ?_
  unfold fi189
  simp only [↓reduceIte, ↓zP, zW, WOp, evOp, evBin, binI, binSh, binS, evNil, keyIs, keyEq, mkv, AV.cells, AV.sc, optv, bnd, env, put, Env.get, Env.set, Env.del, Env.dels, Env.init, res1, resL, resV, fillP, splice, newRow, Nat.reduceEqDiff, Nat.reduceLT, Nat.reduceLeDiff, Nat.reduceAdd, Nat.reduceMul, Nat.reduceSub, Nat.reduceBEq, reduceCtorEq]
  refine S_ext rfl rfl ?_
  simp only [↓reduceIte, ↓zP, zW, WOp, evOp, evBin, binI, binSh, binS, evNil, keyIs, keyEq, mkv, AV.cells, AV.sc, optv, bnd, env, put, Env.get, Env.set, Env.del, Env.dels, Env.init, res1, resL, resV, fillP, splice, newRow, Nat.reduceEqDiff, Nat.reduceLT, Nat.reduceLeDiff, Nat.reduceAdd, Nat.reduceMul, Nat.reduceSub, Nat.reduceBEq, reduceCtorEq]
  refine S_ext rfl rfl ?_
  simp only [↓reduceIte, ↓zP, zW, WOp, evOp, evBin, binI, binSh, binS, evNil, keyIs, keyEq, mkv, AV.cells, AV.sc, optv, bnd, env, put, Env.get, Env.set, Env.del, Env.dels, Env.init, res1, resL, resV, fillP, splice, newRow, Nat.reduceEqDiff, Nat.reduceLT, Nat.reduceLeDiff, Nat.reduceAdd, Nat.reduceMul, Nat.reduceSub, Nat.reduceBEq, reduceCtorEq]
  refine S_ext rfl rfl ?_
  simp only [↓reduceIte, ↓zP, zW, WOp, evOp, evBin, binI, binSh, binS, evNil, keyIs, keyEq, mkv, AV.cells, AV.sc, optv, bnd, env, put, Env.get, Env.set, Env.del, Env.dels, Env.init, res1, resL, resV, fillP, splice, newRow, Nat.reduceEqDiff, Nat.reduceLT, Nat.reduceLeDiff, Nat.reduceAdd, Nat.reduceMul, Nat.reduceSub, Nat.reduceBEq, reduceCtorEq]
  exact hp

theorem dw_nil {p : UInt8 → Bool} : ∀ l : List UInt8, l.dropWhile p = [] ↔ ∀ x ∈ l, p x = true
  | [] => by simp
  | a :: l => by
    rw [List.dropWhile_cons]
    cases h : p a
    · simp [h]
    · simp only [if_true, dw_nil l, List.mem_cons, forall_eq_or_imp, h, true_and]
theorem tw_mem {p : UInt8 → Bool} : ∀ (l : List UInt8) (x : UInt8), x ∈ l.takeWhile p → p x = true
  | [], x, h => by simp at h
  | a :: l, x, h => by
    rw [List.takeWhile_cons] at h
    cases ha : p a
    · simp [ha] at h
    · simp only [ha, if_true, List.mem_cons] at h
      rcases h with rfl | h
      · exact ha
      · exact tw_mem l x h
theorem trim_nil (s : List UInt8) : (Go.Lib.trimS s [46, 70, 84] == []) = s.all isSign := by
  have hp : ∀ b, ([46, 70, 84] : List UInt8).contains b = isSign b := by
    intro b
    simp only [List.contains_cons, List.contains_nil, Bool.or_false, isSign]
    cases b == 46 <;> cases b == 70 <;> cases b == 84 <;> rfl
  apply Bool.eq_iff_iff.2
  simp only [beq_iff_eq, List.all_eq_true, Go.Lib.trimS, Go.Lib.trimLeftS, Go.Lib.trimRightS, hp]
  constructor
  · intro h x hx
    rw [dw_nil] at h
    by_cases hs : isSign x = true
    · exact hs
    · have : x ∈ (List.dropWhile isSign s.reverse).reverse := by
        rw [List.mem_reverse]
        have := List.takeWhile_append_dropWhile (p := isSign) (l := s.reverse)
        have hx' : x ∈ s.reverse := by simpa using hx
        rw [← this, List.mem_append] at hx'
        rcases hx' with h1 | h1
        · exact absurd (tw_mem _ _ h1) hs
        · exact h1
      exact h x this
  · intro h
    have : List.dropWhile isSign s.reverse = [] := by
      rw [dw_nil]; intro x hx; exact h x (by simpa using hx)
    rw [this]; rfl

theorem c_isLineOf (s : List UInt8) (most : Int) (hm : most ≤ 1000) (hs : s.length < 2 ^ 60) {h : AH} {post : AV → AH → Prop} (hp : post (.bool (decide (1 ≤ (s.length : Int) ∧ (s.length : Int) ≤ most) && s.all isSign)) h) : S 82 [.str s, .int .i64 most] h post k := by
  refine S_of rfl T82 ?_
  unfold fi82
  simp only [↓reduceIte, ↓zP, zW, WOp, evOp, evBin, binI, binSh, binS, evNil, keyIs, keyEq, mkv, AV.cells, AV.sc, optv, bnd, env, put, Env.get, Env.set, Env.del, Env.dels, Env.init, res1, resL, resV, fillP, splice, newRow, Nat.reduceEqDiff, Nat.reduceLT, Nat.reduceLeDiff, Nat.reduceAdd, Nat.reduceMul, Nat.reduceSub, Nat.reduceBEq, reduceCtorEq]
  refine c_within _ _ _ ?_
  by_cases hl : 1 ≤ (s.length : Int) ∧ (s.length : Int) ≤ most
  · simp only [↓reduceIte, ↓zP, zW, WOp, evOp, evBin, binI, binSh, binS, evNil, keyIs, keyEq, mkv, AV.cells, AV.sc, optv, bnd, env, put, Env.get, Env.set, Env.del, Env.dels, Env.init, res1, resL, resV, fillP, splice, newRow, Nat.reduceEqDiff, Nat.reduceLT, Nat.reduceLeDiff, Nat.reduceAdd, Nat.reduceMul, Nat.reduceSub, Nat.reduceBEq, reduceCtorEq, hl]
    refine S_ext (r := .str (Go.Lib.trimS s [46, 70, 84])) rfl ?_ ?_
    · simp only [xTrim]; rw [if_pos ⟨by omega, by simp, by decide⟩]
    · simp only [↓reduceIte, ↓zP, zW, WOp, evOp, evBin, binI, binSh, binS, evNil, keyIs, keyEq, mkv, AV.cells, AV.sc, optv, bnd, env, put, Env.get, Env.set, Env.del, Env.dels, Env.init, res1, resL, resV, fillP, splice, newRow, Nat.reduceEqDiff, Nat.reduceLT, Nat.reduceLeDiff, Nat.reduceAdd, Nat.reduceMul, Nat.reduceSub, Nat.reduceBEq, reduceCtorEq, trim_nil]
      simpa [hl] using hp
  · simp only [↓reduceIte, ↓zP, zW, WOp, evOp, evBin, binI, binSh, binS, evNil, keyIs, keyEq, mkv, AV.cells, AV.sc, optv, bnd, env, put, Env.get, Env.set, Env.del, Env.dels, Env.init, res1, resL, resV, fillP, splice, newRow, Nat.reduceEqDiff, Nat.reduceLT, Nat.reduceLeDiff, Nat.reduceAdd, Nat.reduceMul, Nat.reduceSub, Nat.reduceBEq, reduceCtorEq, hl]
    simpa [hl] using hp

def pairsL : List UInt8 → Nat → Nat → Nat
  | [], _, sum => sum
  | b :: l, t, sum => if b == 84 then pairsL l (t + 1) sum else if b == 70 then pairsL l t (sum + t) else pairsL l t sum
def pairsB (w : List UInt8) : Nat := pairsL w 0 0

end Go.Proofs.YthoibdfcaejgbaaDoor.Ab

/- PLAIN: recursion along a relation that falls, by fuel and without. -/
namespace Go.Proofs.YthoibdfcaejgbaaDoor.Ab

section
variable {σ α : Type} (next : σ → List σ) (step : σ → List α → α)
/-- By fuel. -/
def rcN : Nat → σ → α
  | 0, s => step s []
  | n + 1, s => step s ((next s).map (rcN n))
/-- By a measure. -/
def rc (mu : σ → Nat) (s : σ) : α := rcN next step (mu s) s
theorem rcN_stable {mu : σ → Nat} (hm : ∀ s, ∀ s' ∈ next s, mu s' < mu s) : ∀ (n m : Nat) (s : σ), mu s ≤ n → mu s ≤ m → rcN next step n s = rcN next step m s
  | 0, 0, _, _, _ => rfl
  | 0, m + 1, s, h, _ => by
    have : next s = [] := List.eq_nil_iff_forall_not_mem.2 fun s' hs => by have := hm s s' hs; omega
    simp [rcN, this]
  | n + 1, 0, s, _, h => by
    have : next s = [] := List.eq_nil_iff_forall_not_mem.2 fun s' hs => by have := hm s s' hs; omega
    simp [rcN, this]
  | n + 1, m + 1, s, h1, h2 => by
    simp only [rcN]
    congr 1
    apply List.map_congr_left
    intro s' hs
    have := hm s s' hs
    exact rcN_stable hm n m s' (by omega) (by omega)
theorem rc_eq {mu : σ → Nat} (hm : ∀ s, ∀ s' ∈ next s, mu s' < mu s) (s : σ) : rc next step mu s = step s ((next s).map (rc next step mu)) := by
  unfold rc
  rw [rcN_stable next step hm (mu s) (mu s + 1) s (Nat.le_refl _) (by omega)]
  simp only [rcN]
  congr 1
  apply List.map_congr_left
  intro s' hs
  have := hm s s' hs
  exact rcN_stable next step hm _ _ s' (by omega) (by omega)
end
end Go.Proofs.YthoibdfcaejgbaaDoor.Ab

/- PLAIN LAWS of lines and moves: no program in sight. -/
namespace Go.Proofs.YthoibdfcaejgbaaDoor.Ab

/-- What is still before an animal. -/
def fmu (n i : Nat) (b : UInt8) : Nat := if b == 84 then n - i else if b == 70 then i + 1 else 0
def muF (n : Nat) : Nat → List UInt8 → Nat
  | _, [] => 0
  | i, b :: l => fmu n i b + muF n (i + 1) l
def mu (w : List UInt8) : Nat := muF w.length 0 w
theorem muF_set (n : Nat) : ∀ (l : List UInt8) (i j : Nat) (b : UInt8), j < l.length → muF n i (l.set j b) + fmu n (i + j) (l.getD j 0) = muF n i l + fmu n (i + j) b
  | [], _, _, _, h => by simp at h
  | a :: l, i, 0, b, _ => by simp [muF]; omega
  | a :: l, i, j + 1, b, h => by
    have := muF_set n l (i + 1) j b (by simpa using h)
    simp only [List.set_cons_succ, muF, List.getD_cons_succ]
    rw [show i + (j + 1) = i + 1 + j by omega]
    omega
/-- The line behind a move. -/
def madeB (w : List UInt8) (i t : Nat) : List UInt8 := (w.set t (w.getD i 0)).set i 46
theorem madeB_length (w : List UInt8) (i t : Nat) : (madeB w i t).length = w.length := by simp [madeB]

theorem atB_in {w : List UInt8} {i : Nat} (h : i < w.length) : atB w (i : Int) = w.getD i 0 := by
  unfold atB; rw [if_pos (by omega)]; simp
theorem atB_ne {w : List UInt8} {i : Int} (h : atB w i ≠ 0) : 0 ≤ i ∧ i < w.length := by
  unfold atB at h; split at h
  · assumption
  · exact absurd rfl h
theorem atB_eq {w : List UInt8} {i : Int} {b : UInt8} (h : atB w i = b) (hb : b ≠ 0) : ∃ t : Nat, i = t ∧ t < w.length ∧ w.getD t 0 = b := by
  obtain ⟨h1, h2⟩ := atB_ne (w := w) (i := i) (by rw [h]; exact hb)
  refine ⟨i.toNat, by omega, by omega, ?_⟩
  unfold atB at h; rw [if_pos ⟨h1, h2⟩] at h; exact h

/-- A move: which animal, where to. -/
def Mv (w : List UInt8) (i t : Nat) : Prop := i < w.length ∧ t < w.length ∧ w.getD t 0 = 46 ∧
  ((w.getD i 0 = 84 ∧ (t = i + 1 ∨ (t = i + 2 ∧ w.getD (i + 1) 0 = 70))) ∨ (w.getD i 0 = 70 ∧ (t + 1 = i ∨ (t + 2 = i ∧ w.getD (i - 1) 0 = 84))))
theorem goalB_mv {w : List UInt8} {i : Nat} {t : Int} (hi : i < w.length) (h : goalB w i = some t) : ∃ t' : Nat, t = t' ∧ Mv w i t' := by
  have hs : w.getD i 0 = 84 ∨ w.getD i 0 = 70 ∨ stepB (w.getD i 0) = 0 := by
    unfold stepB
    by_cases h1 : w.getD i 0 = 84
    · exact .inl h1
    · by_cases h2 : w.getD i 0 = 70
      · exact .inr (.inl h2)
      · right; right; rw [if_neg (by simpa using h1), if_neg (by simpa using h2)]
  unfold goalB at h
  rcases hs with h0 | h0 | h0
  · rw [h0] at h
    simp only [show stepB 84 = 1 from rfl, show otherB 84 = 70 from rfl] at h
    split at h
    · rename_i hh; cases hh
    · split at h
      · rename_i h1
        obtain ⟨t', ht, h2, h3⟩ := atB_eq (beq_iff_eq.1 h1) (by decide)
        cases h
        exact ⟨t', ht, hi, h2, h3, .inl ⟨h0, .inl (by omega)⟩⟩
      · split at h
        · rename_i h1
          simp only [Bool.and_eq_true, beq_iff_eq] at h1
          obtain ⟨u, hu, h4, h5⟩ := atB_eq h1.1 (by decide)
          obtain ⟨t', ht, h2, h3⟩ := atB_eq h1.2 (by decide)
          cases h
          refine ⟨t', ht, hi, h2, h3, .inl ⟨h0, .inr ⟨by omega, ?_⟩⟩⟩
          rw [show i + 1 = u by omega]; exact h5
        · cases h
  · rw [h0] at h
    simp only [show stepB 70 = -1 from rfl, show otherB 70 = 84 from rfl] at h
    split at h
    · rename_i hh; cases hh
    · split at h
      · rename_i h1
        obtain ⟨t', ht, h2, h3⟩ := atB_eq (beq_iff_eq.1 h1) (by decide)
        cases h
        exact ⟨t', ht, hi, h2, h3, .inr ⟨h0, .inl (by omega)⟩⟩
      · split at h
        · rename_i h1
          simp only [Bool.and_eq_true, beq_iff_eq] at h1
          obtain ⟨u, hu, h4, h5⟩ := atB_eq h1.1 (by decide)
          obtain ⟨t', ht, h2, h3⟩ := atB_eq h1.2 (by decide)
          cases h
          refine ⟨t', ht, hi, h2, h3, .inr ⟨h0, .inr ⟨by omega, ?_⟩⟩⟩
          rw [show i - 1 = u by omega]; exact h5
        · cases h
  · rw [h0] at h
    simp at h

theorem Mv.fst {w : List UInt8} {i t : Nat} (h : Mv w i t) : i < w.length := h.1
theorem Mv.snd {w : List UInt8} {i t : Nat} (h : Mv w i t) : t < w.length := h.2.1
theorem mu_made {w : List UInt8} {i t : Nat} (h : Mv w i t) : mu (madeB w i t) < mu w := by
  obtain ⟨h1, h2, h3, h4⟩ := h
  have hne : t ≠ i := by
    rcases h4 with ⟨h5, _⟩ | ⟨h5, _⟩ <;> (rintro rfl; rw [h3] at h5; revert h5; decide)
  have e1 := muF_set w.length w 0 t (w.getD i 0) h2
  have e2 := muF_set w.length (w.set t (w.getD i 0)) 0 i 46 (by simpa using h1)
  have e3 : (w.set t (w.getD i 0)).getD i 0 = w.getD i 0 := by
    simp [List.getD_eq_getElem?_getD, List.getElem?_set, hne]
  rw [e3] at e2
  rw [h3] at e1
  unfold mu
  rw [madeB_length]
  unfold madeB
  simp only [Nat.zero_add] at e1 e2
  rcases h4 with ⟨h5, h6⟩ | ⟨h5, h6⟩
  · rw [h5] at e1 e2 ⊢
    simp only [fmu, show ((46 : UInt8) == 84) = false from rfl, show ((46 : UInt8) == 70) = false from rfl, show ((84 : UInt8) == 84) = true from rfl, if_true, Bool.false_eq_true, if_false] at e1 e2
    omega
  · rw [h5] at e1 e2 ⊢
    simp only [fmu, show ((46 : UInt8) == 84) = false from rfl, show ((46 : UInt8) == 70) = false from rfl, show ((70 : UInt8) == 84) = false from rfl, show ((70 : UInt8) == 70) = true from rfl, if_true, Bool.false_eq_true, if_false] at e1 e2
    omega

theorem movesB_mv {w kinds : List UInt8} {m : Int × Int} (h : m ∈ movesB w kinds) : ∃ i t : Nat, m = ((i : Int), (t : Int)) ∧ Mv w i t := by
  simp only [movesB, List.mem_flatMap, List.mem_range] at h
  obtain ⟨i, hi, h⟩ := h
  unfold moveB at h
  split at h
  · rename_i t hg
    split at h
    · obtain ⟨t', rfl, hm⟩ := goalB_mv hi hg
      simp at h
      exact ⟨i, t', h, hm⟩
    · simp at h
  · simp at h
theorem moveB_len (w kinds : List UInt8) (i : Nat) : (moveB w kinds i).length ≤ 1 := by
  unfold moveB
  split
  · split <;> simp
  · simp
theorem movesB_len (w kinds : List UInt8) : (movesB w kinds).length ≤ w.length := by
  have key : ∀ l : List Nat, (l.flatMap (moveB w kinds)).length ≤ l.length := by
    intro l
    induction l with
    | nil => simp
    | cons a l ih =>
      have := moveB_len w kinds a
      simp only [List.flatMap_cons, List.length_append, List.length_cons]
      omega
  have := key (List.range w.length)
  simpa [movesB] using this
/-- All lines behind a move. -/
def nextB (w kinds : List UInt8) : List (List UInt8) := (movesB w kinds).map fun m => madeB w m.1.toNat m.2.toNat
theorem nextB_mu {w kinds v : List UInt8} (h : v ∈ nextB w kinds) : mu v < mu w := by
  simp only [nextB, List.mem_map] at h
  obtain ⟨m, hm, rfl⟩ := h
  obtain ⟨i, t, rfl, hmv⟩ := movesB_mv hm
  exact mu_made hmv
theorem nextB_length {w kinds v : List UInt8} (h : v ∈ nextB w kinds) : v.length = w.length := by
  simp only [nextB, List.mem_map] at h
  obtain ⟨m, hm, rfl⟩ := h
  rw [madeB_length]

/-! ### Who wins -/
def kindS (t : Bool) : List UInt8 := if t then [84] else [70]
def winNx (s : List UInt8 × Bool) : List (List UInt8 × Bool) := (nextB s.1 (kindS s.2)).map fun v => (v, !s.2)
def winSt (_ : List UInt8 × Bool) (l : List Bool) : Bool := l.any fun b => !b
def winB (w : List UInt8) (t : Bool) : Bool := rc winNx winSt (fun s => mu s.1) (w, t)
theorem winB_eq (w : List UInt8) (t : Bool) : winB w t = (movesB w (kindS t)).any fun m => !winB (madeB w m.1.toNat m.2.toNat) (!t) := by
  unfold winB
  have hm : ∀ s : List UInt8 × Bool, ∀ s' ∈ winNx s, mu s'.1 < mu s.1 := by
    intro s s' hs
    simp only [winNx, List.mem_map] at hs
    obtain ⟨v, hv, rfl⟩ := hs
    exact nextB_mu hv
  rw [rc_eq winNx winSt (mu := fun s => mu s.1) hm (w, t)]
  simp only [winSt, winNx, nextB, List.map_map, List.any_map, Function.comp_def]
end Go.Proofs.YthoibdfcaejgbaaDoor.Ab

/- PLAIN LAWS of moves: what the reference lists is what the program lists. -/
namespace Go.Proofs.YthoibdfcaejgbaaDoor.Ab

instance (w : List UInt8) (i t : Nat) : Decidable (Mv w i t) := by unfold Mv; infer_instance
/-- A move can be made. -/
def canB (w : List UInt8) (m : Int × Int) : Bool := decide (0 ≤ m.1 ∧ 0 ≤ m.2 ∧ Mv w m.1.toNat m.2.toNat)

theorem mv_goalB {w : List UInt8} {i t : Nat} (h : Mv w i t) : goalB w i = some (t : Int) := by
  obtain ⟨h1, h2, h3, h4⟩ := h
  unfold goalB
  rcases h4 with ⟨h5, h6⟩ | ⟨h5, h6⟩
  · rw [h5]
    simp only [show stepB 84 = 1 from rfl, show otherB 84 = 70 from rfl]
    rw [if_neg (by decide)]
    rcases h6 with rfl | ⟨rfl, h7⟩
    · rw [if_pos (by rw [show ((i : Int) + 1) = ((i + 1 : Nat) : Int) by omega, atB_in h2, h3]; rfl)]
      congr 1
    · rw [if_neg (by rw [show ((i : Int) + 1) = ((i + 1 : Nat) : Int) by omega, atB_in (by omega), h7]; decide)]
      rw [if_pos (by rw [show ((i : Int) + 1) = ((i + 1 : Nat) : Int) by omega, show ((i : Int) + 2 * 1) = ((i + 2 : Nat) : Int) by omega, atB_in (by omega), atB_in h2, h7, h3]; rfl)]
      congr 1
  · rw [h5]
    simp only [show stepB 70 = -1 from rfl, show otherB 70 = 84 from rfl]
    rw [if_neg (by decide)]
    rcases h6 with h6 | ⟨h6, h7⟩
    · rw [if_pos (by rw [show ((i : Int) + -1) = ((t : Nat) : Int) by omega, atB_in h2, h3]; rfl)]
      congr 1; omega
    · rw [if_neg (by rw [show ((i : Int) + -1) = ((i - 1 : Nat) : Int) by omega, atB_in (by omega), h7]; decide)]
      rw [if_pos (by rw [show ((i : Int) + -1) = ((i - 1 : Nat) : Int) by omega, show ((i : Int) + 2 * -1) = ((t : Nat) : Int) by omega, atB_in (by omega), atB_in h2, h7, h3]; rfl)]
      congr 1; omega
theorem canB_goal {w : List UInt8} {i : Nat} {t : Int} (hi : i < w.length) : canB w ((i : Int), t) = (goalB w i == some t) := by
  apply Bool.eq_iff_iff.2
  simp only [canB, decide_eq_true_eq, beq_iff_eq]
  constructor
  · rintro ⟨_, h2, h3⟩
    rw [mv_goalB (by simpa using h3)]
    congr 1; omega
  · intro h
    obtain ⟨t', rfl, hm⟩ := goalB_mv hi h
    exact ⟨by omega, by omega, by simpa using hm⟩
theorem goalB_near {w : List UInt8} {i : Nat} {t : Int} (hi : i < w.length) (h : goalB w i = some t) : t = i - 2 ∨ t = i - 1 ∨ t = i + 1 ∨ t = i + 2 := by
  obtain ⟨t', rfl, _, _, _, h4⟩ := goalB_mv hi h
  rcases h4 with ⟨_, h6⟩ | ⟨_, h6⟩ <;> omega

/-- What the reference lists from a cell. -/
def liMoveB (w : List UInt8) (toads frogs : Bool) (i : Nat) : List (Int × Int) :=
  if ((w.getD i 0 == 84) && !toads) || ((w.getD i 0 == 70) && !frogs) then [] else
  ([(i : Int) - 2, i - 1, i, i + 1, i + 2].filter fun t => canB w ((i : Int), t)).map fun t => ((i : Int), t)
def kindsS (toads frogs : Bool) : List UInt8 := (if toads then [84] else []) ++ (if frogs then [70] else [])
theorem hasB_kinds (t f : Bool) (b : UInt8) : hasB (kindsS t f) b = ((t && b == 84) || (f && b == 70)) := by
  have e1 : ((84 : UInt8) == b) = (b == 84) := by rw [Bool.eq_iff_iff]; simp only [beq_iff_eq]; exact eq_comm
  have e2 : ((70 : UInt8) == b) = (b == 70) := by rw [Bool.eq_iff_iff]; simp only [beq_iff_eq]; exact eq_comm
  unfold hasB kindsS
  cases t <;> cases f <;> cases h1 : (b == 84) <;> cases h2 : (b == 70) <;> simp [Go.Lib.indexByte, e1, e2, h1, h2]
theorem liMoveB_eq (w : List UInt8) (toads frogs : Bool) (i : Nat) (hi : i < w.length) : liMoveB w toads frogs i = moveB w (kindsS toads frogs) i := by
  unfold liMoveB moveB
  simp only [canB_goal hi, hasB_kinds]
  cases hg : goalB w i with
  | none => simp
  | some t =>
    have hn := goalB_near hi hg
    obtain ⟨t', ht, _, _, _, h4⟩ := goalB_mv hi hg
    have hk : w.getD i 0 = 84 ∨ w.getD i 0 = 70 := h4.imp And.left And.left
    have hf : ([(i : Int) - 2, i - 1, i, i + 1, i + 2].filter fun u => (some t == some u)) = [t] := by
      have e : ∀ u : Int, (some t == some u) = decide (t = u) := fun u => by
        apply Bool.eq_iff_iff.2; simp
      simp only [e]
      rcases hn with h | h | h | h
      · simp only [List.filter_cons, List.filter_nil, show (t = (i : Int) - 2) = True from eq_true h, show (t = (i : Int) - 1) = False from eq_false (by omega), show (t = (i : Int)) = False from eq_false (by omega), show (t = (i : Int) + 1) = False from eq_false (by omega), show (t = (i : Int) + 2) = False from eq_false (by omega)]
        simp [h]
      · simp only [List.filter_cons, List.filter_nil, show (t = (i : Int) - 2) = False from eq_false (by omega), show (t = (i : Int) - 1) = True from eq_true h, show (t = (i : Int)) = False from eq_false (by omega), show (t = (i : Int) + 1) = False from eq_false (by omega), show (t = (i : Int) + 2) = False from eq_false (by omega)]
        simp [h]
      · simp only [List.filter_cons, List.filter_nil, show (t = (i : Int) - 2) = False from eq_false (by omega), show (t = (i : Int) - 1) = False from eq_false (by omega), show (t = (i : Int)) = False from eq_false (by omega), show (t = (i : Int) + 1) = True from eq_true h, show (t = (i : Int) + 2) = False from eq_false (by omega)]
        simp [h]
      · simp only [List.filter_cons, List.filter_nil, show (t = (i : Int) - 2) = False from eq_false (by omega), show (t = (i : Int) - 1) = False from eq_false (by omega), show (t = (i : Int)) = False from eq_false (by omega), show (t = (i : Int) + 1) = False from eq_false (by omega), show (t = (i : Int) + 2) = True from eq_true h]
        simp [h]
    rw [hf]
    rcases hk with h | h <;> rw [h] <;> cases toads <;> cases frogs <;> simp
def liMovesB (w : List UInt8) (toads frogs : Bool) : List (Int × Int) := (List.range w.length).flatMap (liMoveB w toads frogs)
theorem flatMap_congr' {α β : Type} {f g : α → List β} : ∀ {l : List α}, (∀ x ∈ l, f x = g x) → l.flatMap f = l.flatMap g
  | [], _ => rfl
  | a :: l, h => by rw [List.flatMap_cons, List.flatMap_cons, h a (by simp), flatMap_congr' fun x hx => h x (by simp [hx])]
theorem liMovesB_eq (w : List UInt8) (toads frogs : Bool) : liMovesB w toads frogs = movesB w (kindsS toads frogs) :=
  flatMap_congr' fun i hi => liMoveB_eq w toads frogs i (List.mem_range.1 hi)
end Go.Proofs.YthoibdfcaejgbaaDoor.Ab

/- MOVES made: the program's and the reference's. -/
namespace Go.Proofs.YthoibdfcaejgbaaDoor.Ab
open Go
set_option maxRecDepth 100000
set_option maxHeartbeats 4000000

abbrev mvV (i t : Int) : AV := .agg [.int .i64 i, .int .i64 t]

theorem c_liPut (w : List UInt8) (i : Nat) (s : List UInt8) (hi : i < w.length) (hw : w.length < 2 ^ 30) (hs : s.length < 2 ^ 30) {h : AH} {post : AV → AH → Prop} (hp : post (.str (w.take i ++ s ++ w.drop (i + 1))) h) : S 108 [.str w, .int .i64 i, .str s] h post k := by
  refine S_of rfl T108 ?_; unfold fi108
  have e1 : ((i : Int) + 1).toNat = i + 1 := by omega
  simp (maxSteps := 1000000) (disch := first | omega | rfl | (simp only [zL, two63, room] <;> omega) | fail) only [↓reduceIte, ↓zP, zW, WOp, evOp, evBin, binI, binSh, binS, evNil, keyIs, keyEq, mkv, AV.cells, AV.sc, optv, bnd, env, put, Env.get, Env.set, Env.del, Env.dels, Env.init, res1, resL, resV, fillP, splice, newRow, Nat.reduceEqDiff, Nat.reduceLT, Nat.reduceLeDiff, Nat.reduceAdd, Nat.reduceMul, Nat.reduceSub, Nat.reduceBEq, reduceCtorEq, ↓zR, zQ, Tr, StA, StT, e1]
  exact hp
theorem c_made (w : List UInt8) (i t : Nat) (hi : i < w.length) (ht : t < w.length) (hw : w.length < 2 ^ 30) {h : AH} {post : AV → AH → Prop} (hp : ∀ h', Pre h h' → post (.str (madeB w i t)) h') : S 61 [.str w, mvV i t] h post k := by
  refine S_of rfl T61 ?_; unfold fi61
  have hr : w.length ≤ room := by unfold room; omega
  simp (maxSteps := 1000000) (disch := first | omega | rfl | (simp only [zL, two63, room] <;> omega) | fail) only [↓reduceIte, ↓zP, zW, WOp, evOp, evBin, binI, binSh, binS, evNil, keyIs, keyEq, mkv, AV.cells, AV.sc, optv, bnd, env, put, Env.get, Env.set, Env.del, Env.dels, Env.init, res1, resL, resV, fillP, splice, newRow, Nat.reduceEqDiff, Nat.reduceLT, Nat.reduceLeDiff, Nat.reduceAdd, Nat.reduceMul, Nat.reduceSub, Nat.reduceBEq, reduceCtorEq, ↓zR, zQ, Tr, StA, StT, sc_bytes, List.length_map, hr]
  refine w_drw ?_
  simp (maxSteps := 1000000) (disch := first | omega | rfl | (simp only [zL, two63, room] <;> omega) | fail) only [↓reduceIte, ↓zP, zW, WOp, evOp, evBin, binI, binSh, binS, evNil, keyIs, keyEq, mkv, AV.cells, AV.sc, optv, bnd, env, put, Env.get, Env.set, Env.del, Env.dels, Env.init, res1, resL, resV, fillP, splice, newRow, Nat.reduceEqDiff, Nat.reduceLT, Nat.reduceLeDiff, Nat.reduceAdd, Nat.reduceMul, Nat.reduceSub, Nat.reduceBEq, reduceCtorEq, ↓zR, zQ, Tr, StA, StT, List.length_map, hr]
  exact hp _ ((Pre.push _ _).trans (Pre.push _ _))

theorem e_l1In (n lo hi : Int) {h : AH} {post : AV → AH → Prop} : S 77 [.int .i64 n, .int .i64 lo, .int .i64 hi] h post k = post (.bool (decide (lo ≤ n ∧ n ≤ hi))) h := S_eq fun _ => c_l1In n lo hi
theorem e_within (n lo hi : Int) {h : AH} {post : AV → AH → Prop} : S 74 [.int .i64 n, .int .i64 lo, .int .i64 hi] h post k = post (.bool (decide (lo ≤ n ∧ n ≤ hi))) h := S_eq fun _ => c_within n lo hi

theorem c_liCan (w : List UInt8) (i t : Int) (hw : w.length < 2 ^ 30) {h : AH} {post : AV → AH → Prop} (hp : ∀ h', Pre h h' → post (.bool (canB w (i, t))) h') : S 130 [.str w, mvV i t] h post k := by
  have hq : ∀ b, canB w (i, t) = b → post (.bool b) (h ++ [AO.row [AV.int .i64 i, AV.int .i64 t] 0 0 false]) := fun b hb => by rw [← hb]; exact hp _ (Pre.push _ _)
  refine S_of rfl T130 ?_; unfold fi130
  by_cases hi : 0 ≤ i ∧ i < w.length
  case neg =>
    have h1 : (0 ≤ i ∧ i ≤ (w.length : Int) - 1) = False := eq_false (by omega)
    simp (maxSteps := 1000000) (disch := first | omega | rfl | (simp only [zL, two63, room] <;> omega) | fail) only [↓reduceIte, ↓zP, zW, WOp, evOp, evBin, binI, binSh, binS, evNil, keyIs, keyEq, mkv, AV.cells, AV.sc, optv, bnd, env, put, Env.get, Env.set, Env.del, Env.dels, Env.init, res1, resL, resV, fillP, splice, newRow, Nat.reduceEqDiff, Nat.reduceLT, Nat.reduceLeDiff, Nat.reduceAdd, Nat.reduceMul, Nat.reduceSub, Nat.reduceBEq, reduceCtorEq, ↓zR, zQ, Tr, StA, StT, e_l1In, h1]
    exact hq _ (decide_eq_false (by rintro ⟨x1, x2, x3, _⟩; simp only at x1 x2 x3; omega))
  have h1 : (0 ≤ i ∧ i ≤ (w.length : Int) - 1) = True := eq_true (by omega)
  by_cases ht : 0 ≤ t ∧ t < w.length
  case neg =>
    have h2 : (0 ≤ t ∧ t ≤ (w.length : Int) - 1) = False := eq_false (by omega)
    simp (maxSteps := 1000000) (disch := first | omega | rfl | (simp only [zL, two63, room] <;> omega) | fail) only [↓reduceIte, ↓zP, zW, WOp, evOp, evBin, binI, binSh, binS, evNil, keyIs, keyEq, mkv, AV.cells, AV.sc, optv, bnd, env, put, Env.get, Env.set, Env.del, Env.dels, Env.init, res1, resL, resV, fillP, splice, newRow, Nat.reduceEqDiff, Nat.reduceLT, Nat.reduceLeDiff, Nat.reduceAdd, Nat.reduceMul, Nat.reduceSub, Nat.reduceBEq, reduceCtorEq, ↓zR, zQ, Tr, StA, StT, e_l1In, h1, h2]
    exact hq _ (decide_eq_false (by rintro ⟨x1, x2, x3, x4, _⟩; simp only at x1 x2 x3 x4; omega))
  have h2 : (0 ≤ t ∧ t ≤ (w.length : Int) - 1) = True := eq_true (by omega)
  obtain ⟨i, rfl⟩ := Int.eq_ofNat_of_zero_le hi.1
  obtain ⟨t, rfl⟩ := Int.eq_ofNat_of_zero_le ht.1
  have hi' : i < w.length := by omega
  have ht' : t < w.length := by omega
  have c1 : ((i : Int) + 1).toNat = i + 1 := by omega
  have c2 : ((i : Int) + -1).toNat = i - 1 := by omega
  have hb : ∀ b : UInt8, (b == 84) = true → (b == 70) = false := fun b hb => by rw [beq_iff_eq] at hb; subst hb; rfl
  cases e0 : (w.getD t 0 == 46)
  · simp (maxSteps := 1000000) (disch := first | omega | rfl | (simp only [zL, two63, room] <;> omega) | fail) only [↓reduceIte, ↓zP, zW, WOp, evOp, evBin, binI, binSh, binS, evNil, keyIs, keyEq, mkv, AV.cells, AV.sc, optv, bnd, env, put, Env.get, Env.set, Env.del, Env.dels, Env.init, res1, resL, resV, fillP, splice, newRow, Nat.reduceEqDiff, Nat.reduceLT, Nat.reduceLeDiff, Nat.reduceAdd, Nat.reduceMul, Nat.reduceSub, Nat.reduceBEq, reduceCtorEq, ↓zR, zQ, Tr, StA, StT, e_l1In, h1, h2, e0]
    exact hq _ (decide_eq_false (by rintro ⟨x1, x2, x3, x4, x5, _⟩; simp only [Int.toNat_natCast] at x5; rw [x5] at e0; cases e0))
  have k0 := beq_iff_eq.1 e0
  cases e1 : (w.getD i 0 == 84)
  · cases e2 : (w.getD i 0 == 70)
    · simp (maxSteps := 1000000) (disch := first | omega | rfl | (simp only [zL, two63, room] <;> omega) | fail) only [↓reduceIte, ↓zP, zW, WOp, evOp, evBin, binI, binSh, binS, evNil, keyIs, keyEq, mkv, AV.cells, AV.sc, optv, bnd, env, put, Env.get, Env.set, Env.del, Env.dels, Env.init, res1, resL, resV, fillP, splice, newRow, Nat.reduceEqDiff, Nat.reduceLT, Nat.reduceLeDiff, Nat.reduceAdd, Nat.reduceMul, Nat.reduceSub, Nat.reduceBEq, reduceCtorEq, ↓zR, zQ, Tr, StA, StT, e_l1In, h1, h2, e0, e1, e2]
      refine hq _ (decide_eq_false ?_)
      rintro ⟨x1, x2, x3, x4, x5, x6⟩
      simp only [Int.toNat_natCast] at x6
      rcases x6 with ⟨x6, _⟩ | ⟨x6, _⟩
      · rw [x6] at e1; cases e1
      · rw [x6] at e2; cases e2
    · have k2 := beq_iff_eq.1 e2
      by_cases t1 : t + 1 = i
      · simp (maxSteps := 1000000) (disch := first | omega | rfl | (simp only [zL, two63, room] <;> omega) | fail) only [↓reduceIte, ↓zP, zW, WOp, evOp, evBin, binI, binSh, binS, evNil, keyIs, keyEq, mkv, AV.cells, AV.sc, optv, bnd, env, put, Env.get, Env.set, Env.del, Env.dels, Env.init, res1, resL, resV, fillP, splice, newRow, Nat.reduceEqDiff, Nat.reduceLT, Nat.reduceLeDiff, Nat.reduceAdd, Nat.reduceMul, Nat.reduceSub, Nat.reduceBEq, reduceCtorEq, ↓zR, zQ, Tr, StA, StT, e_l1In, h1, h2, e0, e1, e2]
        exact hq _ (decide_eq_true (by simp only [Int.toNat_natCast, Mv]; exact ⟨by omega, by omega, hi', ht', k0, .inr ⟨k2, .inl t1⟩⟩))
      by_cases t2 : t + 2 = i
      · cases e3 : (w.getD (i - 1) 0 == 84)
        · simp (maxSteps := 1000000) (disch := first | omega | rfl | (simp only [zL, two63, room] <;> omega) | fail) only [↓reduceIte, ↓zP, zW, WOp, evOp, evBin, binI, binSh, binS, evNil, keyIs, keyEq, mkv, AV.cells, AV.sc, optv, bnd, env, put, Env.get, Env.set, Env.del, Env.dels, Env.init, res1, resL, resV, fillP, splice, newRow, Nat.reduceEqDiff, Nat.reduceLT, Nat.reduceLeDiff, Nat.reduceAdd, Nat.reduceMul, Nat.reduceSub, Nat.reduceBEq, reduceCtorEq, ↓zR, zQ, Tr, StA, StT, e_l1In, h1, h2, e0, e1, e2, c2, e3]
          refine hq _ (decide_eq_false ?_)
          rintro ⟨x1, x2, x3, x4, x5, x6⟩
          simp only [Int.toNat_natCast] at x6
          rcases x6 with ⟨x6, _⟩ | ⟨_, x6 | x6⟩
          · rw [x6] at e1; cases e1
          · omega
          · rw [x6.2] at e3; cases e3
        · simp (maxSteps := 1000000) (disch := first | omega | rfl | (simp only [zL, two63, room] <;> omega) | fail) only [↓reduceIte, ↓zP, zW, WOp, evOp, evBin, binI, binSh, binS, evNil, keyIs, keyEq, mkv, AV.cells, AV.sc, optv, bnd, env, put, Env.get, Env.set, Env.del, Env.dels, Env.init, res1, resL, resV, fillP, splice, newRow, Nat.reduceEqDiff, Nat.reduceLT, Nat.reduceLeDiff, Nat.reduceAdd, Nat.reduceMul, Nat.reduceSub, Nat.reduceBEq, reduceCtorEq, ↓zR, zQ, Tr, StA, StT, e_l1In, h1, h2, e0, e1, e2, c2, e3]
          exact hq _ (decide_eq_true (by simp only [Int.toNat_natCast, Mv]; exact ⟨by omega, by omega, hi', ht', k0, .inr ⟨k2, .inr ⟨t2, beq_iff_eq.1 e3⟩⟩⟩))
      · simp (maxSteps := 1000000) (disch := first | omega | rfl | (simp only [zL, two63, room] <;> omega) | fail) only [↓reduceIte, ↓zP, zW, WOp, evOp, evBin, binI, binSh, binS, evNil, keyIs, keyEq, mkv, AV.cells, AV.sc, optv, bnd, env, put, Env.get, Env.set, Env.del, Env.dels, Env.init, res1, resL, resV, fillP, splice, newRow, Nat.reduceEqDiff, Nat.reduceLT, Nat.reduceLeDiff, Nat.reduceAdd, Nat.reduceMul, Nat.reduceSub, Nat.reduceBEq, reduceCtorEq, ↓zR, zQ, Tr, StA, StT, e_l1In, h1, h2, e0, e1, e2]
        refine hq _ (decide_eq_false ?_)
        rintro ⟨x1, x2, x3, x4, x5, x6⟩
        simp only [Int.toNat_natCast] at x6
        rcases x6 with ⟨x6, _⟩ | ⟨_, x6 | x6⟩
        · rw [x6] at e1; cases e1
        · omega
        · omega
  · have k1 := beq_iff_eq.1 e1
    have e2 := hb _ e1
    by_cases t1 : t = i + 1
    · simp (maxSteps := 1000000) (disch := first | omega | rfl | (simp only [zL, two63, room] <;> omega) | fail) only [↓reduceIte, ↓zP, zW, WOp, evOp, evBin, binI, binSh, binS, evNil, keyIs, keyEq, mkv, AV.cells, AV.sc, optv, bnd, env, put, Env.get, Env.set, Env.del, Env.dels, Env.init, res1, resL, resV, fillP, splice, newRow, Nat.reduceEqDiff, Nat.reduceLT, Nat.reduceLeDiff, Nat.reduceAdd, Nat.reduceMul, Nat.reduceSub, Nat.reduceBEq, reduceCtorEq, ↓zR, zQ, Tr, StA, StT, e_l1In, h1, h2, e0, e1, e2]
      exact hq _ (decide_eq_true (by simp only [Int.toNat_natCast, Mv]; exact ⟨by omega, by omega, hi', ht', k0, .inl ⟨k1, .inl t1⟩⟩))
    by_cases t2 : t = i + 2
    · cases e3 : (w.getD (i + 1) 0 == 70)
      · simp (maxSteps := 1000000) (disch := first | omega | rfl | (simp only [zL, two63, room] <;> omega) | fail) only [↓reduceIte, ↓zP, zW, WOp, evOp, evBin, binI, binSh, binS, evNil, keyIs, keyEq, mkv, AV.cells, AV.sc, optv, bnd, env, put, Env.get, Env.set, Env.del, Env.dels, Env.init, res1, resL, resV, fillP, splice, newRow, Nat.reduceEqDiff, Nat.reduceLT, Nat.reduceLeDiff, Nat.reduceAdd, Nat.reduceMul, Nat.reduceSub, Nat.reduceBEq, reduceCtorEq, ↓zR, zQ, Tr, StA, StT, e_l1In, h1, h2, e0, e1, e2, c1, e3]
        refine hq _ (decide_eq_false ?_)
        rintro ⟨x1, x2, x3, x4, x5, x6⟩
        simp only [Int.toNat_natCast] at x6
        rcases x6 with ⟨_, x6 | x6⟩ | ⟨x6, _⟩
        · omega
        · rw [x6.2] at e3; cases e3
        · rw [x6] at e2; cases e2
      · simp (maxSteps := 1000000) (disch := first | omega | rfl | (simp only [zL, two63, room] <;> omega) | fail) only [↓reduceIte, ↓zP, zW, WOp, evOp, evBin, binI, binSh, binS, evNil, keyIs, keyEq, mkv, AV.cells, AV.sc, optv, bnd, env, put, Env.get, Env.set, Env.del, Env.dels, Env.init, res1, resL, resV, fillP, splice, newRow, Nat.reduceEqDiff, Nat.reduceLT, Nat.reduceLeDiff, Nat.reduceAdd, Nat.reduceMul, Nat.reduceSub, Nat.reduceBEq, reduceCtorEq, ↓zR, zQ, Tr, StA, StT, e_l1In, h1, h2, e0, e1, e2, c1, e3]
        exact hq _ (decide_eq_true (by simp only [Int.toNat_natCast, Mv]; exact ⟨by omega, by omega, hi', ht', k0, .inl ⟨k1, .inr ⟨t2, beq_iff_eq.1 e3⟩⟩⟩))
    · simp (maxSteps := 1000000) (disch := first | omega | rfl | (simp only [zL, two63, room] <;> omega) | fail) only [↓reduceIte, ↓zP, zW, WOp, evOp, evBin, binI, binSh, binS, evNil, keyIs, keyEq, mkv, AV.cells, AV.sc, optv, bnd, env, put, Env.get, Env.set, Env.del, Env.dels, Env.init, res1, resL, resV, fillP, splice, newRow, Nat.reduceEqDiff, Nat.reduceLT, Nat.reduceLeDiff, Nat.reduceAdd, Nat.reduceMul, Nat.reduceSub, Nat.reduceBEq, reduceCtorEq, ↓zR, zQ, Tr, StA, StT, e_l1In, h1, h2, e0, e1, e2]
      refine hq _ (decide_eq_false ?_)
      rintro ⟨x1, x2, x3, x4, x5, x6⟩
      simp only [Int.toNat_natCast] at x6
      rcases x6 with ⟨_, x6 | x6⟩ | ⟨x6, _⟩
      · omega
      · omega
      · rw [x6] at e2; cases e2
end Go.Proofs.YthoibdfcaejgbaaDoor.Ab
