/- Part 3 of the proof of a law of the given program: the rules that it leans on, and what the functions that it reaches answer; the conditions stand with each theorem. -/
import Derived.Calls
import Derived.Orders
import Derived.LoopN
import Derived.Test.YtnamhjdfegohbaaGreatDoorProg
import Derived.Laws.IdiomCopy
import Derived.WalkKit
import Derived.Deep.RegionLaw
import Derived.Lib.SliceRun
import Derived.Ground.SlsfProg
import Derived.Shelf.SlLaysF0
import Derived.Shelf.SlGeneric
import Derived.Shelf.Strings.Builder1
import Derived.Shelf.Strings.Builder2
import Derived.Shelf.Strings.Trim
import Derived.Shelf.Small.Utf8
import Derived.Shelf.Small.Bits
import Derived.Shelf.Small.Strs
import Derived.Shelf.Utf8.RuneCount
import Derived.Shelf.Strconv.Itoa0
import Derived.Shelf.Strings.Search1
import Derived.Shelf.Strings.Search2
import Derived.Shelf.Strings.Search3
import Derived.Shelf.Strings.Count
import Derived.Shelf.LaysM
import Derived.Shelf.Strings.Shaped
import Derived.Shelf.Strings.Split
import Derived.Shelf.Strings.Replace
import Derived.Shelf.Strings.SplitShaped
import Derived.Shelf.Unicode.Decode
import Derived.Shelf.Strings.Runes
import Derived.Shelf.Strings.RuneCount
import Derived.Shelf.Strings.AsciiSet
import Derived.Shelf.Strings.Explode
import Derived.Shelf.Bits.Mul64
import Derived.Shelf.Unicode.DecodeSlow
import Derived.Shelf.Unicode.DecodeAny
import Derived.Shelf.Unicode.DecodeLast
import Derived.Ground.Names2Prog
import Derived.Shelf.Slices.SearchI
import Derived.Ground.SlgcProg
import Derived.Shelf.SlicesG.Cmp
import Derived.Shelf.Strings.SlTrimAscii
import Derived.ChangeSame
import Derived.Below
import Derived.WideKeyArgs
import Derived.Carry
import Derived.Deep.Slices
import Derived.Deep.Fields
import Derived.Lib.SmallJoins
import Derived.Test.YtnamhjdfegohbaaGreatDoorQ1
set_option linter.unusedSimpArgs false
set_option linter.unusedVariables false
/- EVERY OPERATION that the checker lets through is sound. -/
namespace Go.Proofs.YtnamhjdfegohbaaGreatDoor.Ab
open Go Go.RowKit

/-- What a table of calls says of the program. -/
def Sound (P : Program) (F : Nat → Nat) (cf : CF) : Prop :=
  ∀ f xs h r h', cf f xs h = some (r, h') → fnOk P (F f) = true ∧ ∀ base m w args, RelH F base m h w → RelL F m xs args.toList →
    Calls P (F f) args w fun e w' => ∃ v m', e = .returned v ∧ RelV F m' r v ∧ StepR F base m h w m' h' w'

section
variable {P : Program} {F : Nat → Nat} {base : Nat} {o : Oper} {a : Act} {m m' : Emb} {h h' : AH} {w w' : World} {r : AV} {e : Env} {cf : CF}

theorem run_callFunc {f : FuncId} {args : Array Value} (hf : fnOk P f = true) (w : World) : (callFunc f args).run P w = .ok (.enter f args) w := by
  unfold fnOk at hf
  split at hf
  · rename_i fn hfn
    simp only [Bool.and_eq_true, Bool.not_eq_true'] at hf
    obtain ⟨h1, h2⟩ := hf
    obtain ⟨b, hb⟩ := Option.isSome_iff_exists.1 h1
    have h2' : ¬ fn.name = "runtime.NumGoroutine" := by simpa using h2
    simp [callFunc, hfn, h2', hb]
  · cases hf

theorem good_enter {f : Nat} {xs : List AV} {args : Array Value} (hs : Sound P F cf) (hr : RelH F base m h w) (hrun : fnOk P (F f) = true → (execOp a.eval o).run P w = .ok (.enter (F f) args) w) (hx : RelL F m xs args.toList) (hev : cf f xs h = some (r, h')) : Good P F base o a m h w r h' := by
  intro Q
  obtain ⟨h1, h2⟩ := hs f xs h r h' hev
  unfold Oper.wp
  rw [hrun h1]
  simp only [Oper.upon]
  refine (h2 base m w args hr hx).mono ?_
  rintro ee w2 ⟨v, m2, rfl, hv, hst⟩
  exact ⟨v, m2, rfl, hv, hst⟩

theorem args_rel (he : RelEnv F m e a.tmps) : ∀ {cs : List Operand} {xs : List Opd}, chkOs F cs xs = true → RelL F m (xs.map (env e)) (cs.map a.eval) := fun hc =>
  RelL.map (fun _ _ _ h => chkO_rel he h) hc

theorem len1 {c : Call} {x : Opd} (hc : (match c.argTypes[0]?, c.args.toList with
      | some t, [y] => (match P.underlying t with | some (.slice _) => true | _ => false) && chkO F y x
      | _, _ => false) = true) : ∃ t y e, c.argTypes[0]? = some t ∧ c.args.toList = [y] ∧ P.underlying t = some (.slice e) ∧ chkO F y x = true := by
  split at hc
  · rename_i t y h1 h2
    simp only [Bool.and_eq_true] at hc
    obtain ⟨g1, g2⟩ := hc
    split at g1
    · rename_i e he; exact ⟨t, y, e, h1, h2, he, g2⟩
    · cases g1
  · cases hc
theorem len2 {c : Call} {x : Opd} (hc : (match c.argTypes[0]?, c.args.toList with
      | some t, [y] => isS P t && chkO F y x
      | _, _ => false) = true) : ∃ t y, c.argTypes[0]? = some t ∧ c.args.toList = [y] ∧ P.underlying t = some .string ∧ chkO F y x = true := by
  split at hc
  · rename_i t y h1 h2
    simp only [Bool.and_eq_true] at hc
    exact ⟨t, y, h1, h2, und_str hc.1, hc.2⟩
  · cases hc
theorem len3 {c : Call} {x : Opd} (hc : (match c.argTypes[0]?, c.args.toList with
      | some t, [y] => (match P.underlying t with | some (.map _ _) => true | _ => false) && chkO F y x
      | _, _ => false) = true) : ∃ t y k e, c.argTypes[0]? = some t ∧ c.args.toList = [y] ∧ P.underlying t = some (.map k e) ∧ chkO F y x = true := by
  split at hc
  · rename_i t y h1 h2
    simp only [Bool.and_eq_true] at hc
    obtain ⟨g1, g2⟩ := hc
    split at g1
    · rename_i k e he; exact ⟨t, y, k, e, h1, h2, he, g2⟩
    · cases g1
  · cases hc
theorem app1 {c : Call} {esz : Nat} {s x : Opd} (hc : (match c.argTypes[0]?, c.argTypes[1]?, c.args.toList with
      | some t, some t2, [y, z] => (match P.underlying t with | some (.slice e) => sz P e esz && by64 P e && zerN P e esz | _ => false) && seqT P t2 && chkO F y s && chkO F z x
      | _, _, _ => false) = true) : ∃ t t2 y z e d2 i zv, c.argTypes[0]? = some t ∧ c.argTypes[1]? = some t2 ∧ c.args.toList = [y, z] ∧ P.underlying t = some (.slice e) ∧ P.underlying t2 = some d2 ∧ seqD d2 = true ∧
        P.info? e = some i ∧ i.zero = some zv ∧ i.size = esz ∧ i.bytes ≤ 64 ∧ zv.cells.size = esz ∧ chkO F y s = true ∧ chkO F z x = true := by
  split at hc
  · rename_i t t2 y z h1 h2 h3
    simp only [Bool.and_eq_true] at hc
    obtain ⟨⟨⟨g1, g2⟩, g3⟩, g4⟩ := hc
    split at g1
    · rename_i e he
      simp only [Bool.and_eq_true] at g1
      obtain ⟨⟨k1, k2⟩, k3⟩ := g1
      obtain ⟨i, hi, hsz⟩ := sz_eq k1
      unfold zerN at k3
      rw [hi] at k3
      simp only at k3
      split at k3
      · rename_i zv hzv
        unfold seqT at g2
        split at g2
        · rename_i q hq; exact ⟨t, t2, y, z, e, _, i, zv, h1, h2, h3, he, hq, rfl, hi, hzv, hsz, by_eq k2 hi, of_decide_eq_true k3, g3, g4⟩
        · rename_i hq; exact ⟨t, t2, y, z, e, _, i, zv, h1, h2, h3, he, hq, rfl, hi, hzv, hsz, by_eq k2 hi, of_decide_eq_true k3, g3, g4⟩
        · cases g2
      · cases k3
    · cases g1
  · cases hc

theorem call_sound {c : Call} {i : AOp} (hs : Sound P F cf) (hr : RelH F base m h w) (he : RelEnv F m e a.tmps) (hop : o.op = .call c) (hc : chkCall P F c i = true) (hev : evOp cf (env e) h i = some (r, h')) : Good P F base o a m h w r h' := by
  have rel : ∀ {x y}, chkO F x y = true → RelV F m (env e y) (a.eval x) := fun h => chkO_rel he h
  cases i <;> simp only [chkCall] at hc <;> try (cases hc; done)
  case call g xs =>
    split at hc
    · rename_i f hcal
      simp only [Bool.and_eq_true, decide_eq_true_eq] at hc
      obtain ⟨hf, hx⟩ := hc
      subst hf
      refine good_enter hs hr (args := c.args.map a.eval) ?_ (by simpa using args_rel he hx) hev
      intro hok
      simp only [execOp, hop, resolve, hcal, Act.eval, Sem.run_bind]
      simp [Deferred.ofValue, invoke, run_callFunc hok]
    · cases hc
  case callv x xs =>
    split at hc
    · rename_i y hcal
      simp only [Bool.and_eq_true] at hc
      obtain ⟨hy, hx⟩ := hc
      have hy' := rel hy
      simp only [evOp] at hev
      split at hev
      · rename_i f cap hk
        rw [hk] at hy'
        obtain ⟨vs, hv, hcap⟩ := rel_fn hy'
        refine good_enter hs hr (args := c.args.map a.eval ++ vs) ?_ (by simpa using (args_rel he hx).append hcap) hev
        intro hok
        simp only [execOp, hop, resolve, hcal, hv, Sem.run_bind]
        simp [Deferred.ofValue, invoke, run_callFunc hok]
      · cases hev
    · cases hc
  case lenS x =>
    split at hc
    · rename_i hb
      obtain ⟨t, y, h1, h2, h3, h4⟩ := len2 hc
      exact s_lenS hr hop hb h1 h2 h3 (rel h4) hev
    · cases hc
  case lenV x =>
    split at hc
    · rename_i hb
      obtain ⟨t, y, e, h1, h2, h3, h4⟩ := len1 hc
      exact s_lenV hr hop hb h1 h2 h3 (rel h4) hev
    · cases hc
  case mlen x =>
    split at hc
    · rename_i hb
      obtain ⟨t, y, k, e, h1, h2, h3, h4⟩ := len3 hc
      exact s_mlen hr hop hb h1 h2 h3 (rel h4) hev
    · cases hc
  case app esz s x =>
    split at hc
    · rename_i hb
      obtain ⟨t, t2, y, z, e', d2, i, zv, h1, h2, h3, h4, h5, h6, h7, h8, h9, h10, h11, h12, h13⟩ := app1 hc
      exact s_app hr hop hb h1 h2 h3 h4 h5 h6 h7 h8 h9 h10 h11 (rel h12) (rel h13) hev
    · cases hc
  case appS s x =>
    split at hc
    · rename_i hb
      obtain ⟨t, t2, y, z, e', d2, i, zv, h1, h2, h3, h4, h5, h6, h7, h8, h9, h10, h11, h12, h13⟩ := app1 hc
      exact s_appS hr hop hb h1 h2 h3 h4 h5 h6 h7 h8 h9 h10 h11 (rel h12) (rel h13) hev
    · cases hc
  case copy esz s x =>
    split at hc
    · rename_i hb
      split at hc
      · rename_i t y z h1 h2
        simp only [Bool.and_eq_true] at hc
        obtain ⟨⟨g1, g2⟩, g3⟩ := hc
        unfold sliceOf at g1
        split at g1
        · rename_i e' he'
          exact s_copy hr hop hb h1 h2 he' g1 (rel g2) (rel g3) hev
        · cases g1
      · cases hc
    · cases hc
  case clr z x =>
    split at hc
    · rename_i hb
      split at hc
      · rename_i t y h1 h2
        simp only [Bool.and_eq_true] at hc
        obtain ⟨g1, g2⟩ := hc
        split at g1
        · rename_i e' he'
          simp only [Bool.and_eq_true] at g1
          exact s_clr hr hop hb h1 h2 he' g1.1 (rel g2) hev
        · cases g1
      · cases hc
    · cases hc
  case mmx mx x y =>
    split at hc
    · rename_i b hb
      simp only [Bool.and_eq_true] at hc
      obtain ⟨g1, g2⟩ := hc
      have hbb : b = if mx then .max else .min := by
        split at g1
        · rfl
        · rfl
        · cases g1
      cases hargs : c.args.toList with
      | nil => rw [hargs] at g2; simp [chkOs] at g2
      | cons u l =>
        cases l with
        | nil => rw [hargs] at g2; simp [chkOs] at g2
        | cons u2 l =>
          cases l with
          | nil =>
            rw [hargs] at g2
            simp only [chkOs, Bool.and_eq_true] at g2
            exact s_mmx hr hop hb hbb hargs (rel g2.1) (rel g2.2.1) hev
          | cons _ _ => rw [hargs] at g2; simp [chkOs] at g2
    · cases hc

theorem und_arr {t : TypeId} {len esz : Nat} (h : arrOf P t len esz = true) : ∃ e, P.underlying t = some (.array len e) ∧ sz P e esz = true := by
  unfold arrOf at h
  split at h
  · rename_i n e he
    simp only [Bool.and_eq_true, decide_eq_true_eq] at h
    obtain ⟨rfl, h2⟩ := h
    exact ⟨e, he, h2⟩
  · cases h
theorem und_sl {t : TypeId} {esz : Nat} (h : sliceOf P t esz = true) : ∃ e, P.underlying t = some (.slice e) ∧ sz P e esz = true := by
  unfold sliceOf at h
  split at h
  · rename_i e he; exact ⟨e, he, h⟩
  · cases h
theorem und_key {kd : Nat} {t : TypeId} (h : keyT P kd t = true) : ∃ k e d, P.underlying t = some (.map k e) ∧ P.underlying k = some d ∧ keyW kd d := by
  unfold keyT at h
  split at h
  · rename_i k e he
    split at h
    · rename_i d hd; exact ⟨k, e, d, he, hd, keyD_w h⟩
    · cases h
  · cases h

theorem op_sound {i : AOp} (hs : Sound P F cf) (hr : RelH F base m h w) (he : RelEnv F m e a.tmps) (hc : chkOp P F o.op i = true) (hev : evOp cf (env e) h i = some (r, h')) : Good P F base o a m h w r h' := by
  have rel : ∀ {x y}, chkO F x y = true → RelV F m (env e y) (a.eval x) := fun h => chkO_rel he h
  have relo : ∀ {x : Option Operand} {y : Option Opd}, chkOo F x y = true → ∀ u v, x = some u → y = some v → RelV F m (env e v) (a.eval u) := by
    intro x y h u v h1 h2
    subst h1; subst h2
    exact rel h
  generalize hop : o.op = q at hc
  unfold chkOp at hc
  split at hc
  · cases hev; exact s_mov hr (.inl hop) (rel hc)
  · cases hev; exact s_mov hr (.inr hop) (rel hc)
  · simp only [Bool.and_eq_true] at hc
    exact s_pick hr hop (rel hc.1.1) (rel hc.1.2) (rel hc.2) hev
  · simp only [Bool.and_eq_true, decide_eq_true_eq] at hc
    obtain ⟨⟨rfl, h1⟩, h2⟩ := hc
    exact s_bin hr hop (rel h1) (rel h2) hev
  · simp only [Bool.and_eq_true, decide_eq_true_eq] at hc
    obtain ⟨⟨⟨h0, h1⟩, h2⟩, h3⟩ := hc
    exact s_beq hr hop h0 h1 (rel h2) (rel h3) hev
  · simp only [Bool.and_eq_true, decide_eq_true_eq] at hc
    obtain ⟨⟨⟨h0, h1⟩, h2⟩, h3⟩ := hc
    exact s_aeq hr hop h0 h1 (rel h2) (rel h3) hev
  · simp only [Bool.and_eq_true, decide_eq_true_eq] at hc
    obtain ⟨⟨h0, h1⟩, h2⟩ := hc
    exact s_niq hr hop h0 h1 (rel h2) hev
  · simp only [Bool.and_eq_true, decide_eq_true_eq] at hc
    obtain ⟨rfl, h1⟩ := hc
    exact s_un hr hop (rel h1) hev
  · simp only [Bool.and_eq_true] at hc
    exact s_conv hr hop hc.1.1 hc.1.2 (rel hc.2) hev
  · simp only [Bool.and_eq_true] at hc
    obtain ⟨⟨h0, h1⟩, h2⟩ := hc
    split at h1
    · rename_i e' he'; exact s_toB hr hop h0 he' (und_int h1) (rel h2) hev
    · cases h1
  · simp only [Bool.and_eq_true] at hc
    obtain ⟨⟨h0, h1⟩, h2⟩ := hc
    split at h0
    · rename_i e' he'; exact s_ofB hr hop he' (und_int h0) (und_str h1) (rel h2) hev
    · cases h0
  · simp only [Bool.and_eq_true] at hc
    exact s_ofR hr hop hc.1.1 hc.1.2 (rel hc.2) hev
  · exact s_new hr hop hc hev
  · exact s_box hr hop (rel hc) hev
  · simp only [Bool.and_eq_true] at hc
    exact s_build hr hop hc.1 hc.2 (fun _ _ h => rel h) hev
  · simp only [Bool.and_eq_true, decide_eq_true_eq] at hc
    obtain ⟨rfl, h1⟩ := hc
    split at h1
    · rename_i e' he'
      simp only [Bool.and_eq_true, decide_eq_true_eq] at h1
      obtain ⟨⟨⟨⟨g1, g2⟩, g3⟩, g4⟩, g5⟩ := h1
      split at g4
      · rename_i ie hie
        split at g4
        · rename_i zv hzv
          simp only [Bool.and_eq_true, decide_eq_true_eq] at g4
          exact s_lit hr hop he' g1 g2 g3 g4.2 hie hzv g4.1.1 g5 (fun _ _ h => rel h) hev
        · cases g4
      · cases g4
    · cases h1
  · simp only [Bool.and_eq_true] at hc
    obtain ⟨h0, h1⟩ := hc
    split at h1
    · rename_i e' he'; exact s_lit0 hr hop h0 he' h1 hev
    · cases h1
  · simp only [Bool.and_eq_true] at hc
    exact s_load hr hop hc.1 (rel hc.2) hev
  · simp only [Bool.and_eq_true] at hc
    exact s_store hr hop hc.1.1 (rel hc.1.2) (rel hc.2) hev
  · exact s_nck hr hop (rel hc) hev
  · simp only [Bool.and_eq_true] at hc
    obtain ⟨h0, h1⟩ := hc
    split at h0
    · rename_i fs hfs
      split at h0
      · rename_i g hg
        simp only [Bool.and_eq_true, decide_eq_true_eq] at h0
        exact s_faddr hr hop hfs hg h0.1.1 h0.1.2 h0.2 (rel h1) hev
      · cases h0
    · cases h0
  · simp only [Bool.and_eq_true] at hc
    obtain ⟨h0, h1⟩ := hc
    split at h0
    · rename_i fs hfs
      split at h0
      · rename_i g hg
        simp only [Bool.and_eq_true, decide_eq_true_eq] at h0
        exact s_fld hr hop hfs hg h0.1 h0.2 (rel h1) hev
      · cases h0
    · cases h0
  · simp only [Bool.and_eq_true] at hc
    obtain ⟨⟨h0, h1⟩, h2⟩ := hc
    obtain ⟨e', he', hs'⟩ := und_sl h0
    exact s_iaddr hr hop he' hs' (rel h1) (rel h2) hev
  · simp only [Bool.and_eq_true] at hc
    obtain ⟨⟨h0, h1⟩, h2⟩ := hc
    obtain ⟨e', he', hs'⟩ := und_arr h0
    exact s_iaddrA hr hop he' hs' (rel h1) (rel h2) hev
  · simp only [Bool.and_eq_true] at hc
    obtain ⟨⟨h0, h1⟩, h2⟩ := hc
    split at h0
    · rename_i n e' he'
      simp only [Bool.and_eq_true, decide_eq_true_eq] at h0
      obtain ⟨rfl, g⟩ := h0
      exact s_idx hr hop he' g (rel h1) (rel h2) hev
    · cases h0
  · simp only [Bool.and_eq_true] at hc
    exact s_idxS hr hop (und_str hc.1.1) (rel hc.1.2) (rel hc.2) hev
  · simp only [Bool.and_eq_true, decide_eq_true_eq] at hc
    obtain ⟨⟨⟨⟨h0, h1⟩, h2⟩, h3⟩, h4⟩ := hc
    obtain ⟨e', he', hs'⟩ := und_sl h0
    exact s_sub hr hop he' hs' h1 h3 h4 (rel h2) (relo h3) (relo h4) hev
  · simp only [Bool.and_eq_true] at hc
    obtain ⟨⟨⟨h0, h1⟩, h2⟩, h3⟩ := hc
    split at h0
    · rename_i e' he'; exact s_sub0 hr hop he' h0 (rel h1) (rel h2) (rel h3) hev
    · cases h0
  · simp only [Bool.and_eq_true] at hc
    obtain ⟨⟨⟨h0, h1⟩, h2⟩, h3⟩ := hc
    exact s_subS hr hop (und_str h0) h2 h3 (rel h1) (relo h2) (relo h3) hev
  · simp only [Bool.and_eq_true, decide_eq_true_eq] at hc
    obtain ⟨⟨⟨⟨h0, h1⟩, h2⟩, h3⟩, h4⟩ := hc
    obtain ⟨e', he', hs'⟩ := und_arr h0
    exact s_subA hr hop he' hs' h1 h3 h4 (rel h2) (relo h3) (relo h4) hev
  · simp only [Bool.and_eq_true] at hc
    obtain ⟨⟨h0, h1⟩, h2⟩ := hc
    split at h0
    · rename_i e' he'
      simp only [Bool.and_eq_true] at h0
      exact s_make hr hop he' h0.1.1.1 h0.1.1.2 h0.1.2 (rel h1) (rel h2) hev
    · cases h0
  · exact s_mkmap hr hop (.inl rfl) hev
  · split at hc
    · rename_i k e' he'; exact s_mkmap hr hop (.inr ⟨_, _, k, e', rfl, he'⟩) hev
    · cases hc
  · simp only [Bool.and_eq_true, decide_eq_true_eq] at hc
    obtain ⟨⟨h0, h1⟩, h2⟩ := hc
    exact s_mkfn hr hop h0 h1 h2 (fun _ _ _ h => rel h) hev
  · simp only [Bool.and_eq_true, decide_eq_true_eq] at hc
    obtain ⟨⟨⟨⟨rfl, h0⟩, h1⟩, h2⟩, h3⟩ := hc
    obtain ⟨k, e', d, he', hk, hd⟩ := und_key h0
    rw [he'] at h1
    simp only at h1
    split at h1
    · rename_i i hi
      split at h1
      · rename_i zv hzv
        exact s_look hr hop he' hk hd hi hzv (chkV_rel _ _ h1) (rel h2) (rel h3) hev
      · cases h1
    · cases h1
  · simp only [Bool.and_eq_true] at hc
    obtain ⟨⟨⟨h0, h1⟩, h2⟩, h3⟩ := hc
    obtain ⟨k, e', d, he', hk, hd⟩ := und_key h0
    exact s_mset hr (.inl hop) he' hk hd (rel h1) (rel h2) (rel h3) hev
  · simp only [Bool.and_eq_true] at hc
    obtain ⟨⟨⟨h0, h1⟩, h2⟩, h3⟩ := hc
    obtain ⟨k, e', d, he', hk, hd⟩ := und_key h0
    exact s_mset hr (.inr hop) he' hk hd (rel h1) (rel h2) (rel h3) hev
  · simp only [Bool.and_eq_true] at hc
    exact s_rng hr hop (und_str hc.1) (rel hc.2) hev
  · simp only [Bool.and_eq_true] at hc
    obtain ⟨k, e', he'⟩ := und_mapM hc.1
    exact s_rngM hr hop he' (rel hc.2) hev
  · exact s_ent hr hop (rel hc) hev
  · simp only [Bool.and_eq_true] at hc
    obtain ⟨rfl, h1⟩ := hc
    exact s_nxt hr hop (rel h1) hev
  · simp only [Bool.and_eq_true, decide_eq_true_eq] at hc
    obtain ⟨rfl, h1⟩ := hc
    exact s_prj hr hop (rel h1) hev
  · exact call_sound hs hr he hop hc hev
  · cases hc

end
end Go.Proofs.YtnamhjdfegohbaaGreatDoor.Ab

/- REGIONS in the order in which they stand. -/
namespace Go.Proofs.YtnamhjdfegohbaaGreatDoor.Ab
open Go Go.RowKit

section
variable {P : Program} {F : Nat → Nat} {base : Nat} {m m' : Emb} {h h' : AH} {w w' : World} {e e' : Env} {cf : CF} {nt : Nat} {ops : Array Oper} {Q : Exit → Act → World → Prop}

theorem Act.put_size (a : Act) (d : Option Nat) (v : Value) : (a.put d v).tmps.size = a.tmps.size := by
  cases d <;> simp [Act.put]
theorem Act.put_defs (a : Act) (d : Option Nat) (v : Value) : (a.put d v).defers = a.defers := by
  cases d <;> rfl

theorem chkD_lt {d d' : Option Nat} (h : chkD nt d d' = true) : d = d' ∧ ∀ t, d = some t → t < nt := by
  unfold chkD at h
  simp only [Bool.and_eq_true, decide_eq_true_eq] at h
  obtain ⟨rfl, h2⟩ := h
  refine ⟨rfl, ?_⟩
  rintro t rfl
  simpa using h2

theorem getD_bool {tmps : Array Value} {t : Nat} {b : Bool} (h : tmps.getD t undef = .bool b) : tmps[t]? = some (.bool b) := by
  rw [Array.getD_eq_getD_getElem?] at h
  cases hg : tmps[t]? with
  | some v => rw [hg] at h; simp at h; rw [h]
  | none => rw [hg] at h; simp [undef] at h

/-- One operation, its guard heard. -/
theorem i_wanted {o : Oper} {i : I} {a : Act} (hc : chkG ops o i = true) (he : RelEnv F m e a.tmps) {t : Nat} {want b : Bool} (hg : i.grd = some (t, want)) (hb : e.get t = .bool b) : Region.wanted o (yielded ops a.tmps) = (b == want) := by
  unfold chkG at hc
  rw [hg] at hc
  split at hc
  · rename_i h1 h2; cases h2
  · rename_i j want2 t2 want' h1 h2
    cases h2
    simp only [Bool.and_eq_true, decide_eq_true_eq] at hc
    obtain ⟨rfl, hd⟩ := hc
    have hv := he t
    rw [hb] at hv
    have hv := getD_bool (rel_bool hv)
    simp [Region.wanted, h1, yielded, hd, hv]
  · cases hc
theorem rel_skp : RelV F m (.tup []) undef := by simp only [RelV]; exact ⟨#[], rfl, by simp [RelL]⟩
theorem skp_undef {v : Value} (h : RelV F m (.tup []) v) : v = .tuple #[] := by
  simp only [RelV, RelL] at h
  obtain ⟨vs, rfl, h2⟩ := h
  rw [Array.toList_eq_nil_iff.1 h2]
/-- A guard on what was not done. -/
theorem i_skp {o : Oper} {i : I} {a : Act} (hc : chkG ops o i = true) (he : RelEnv F m e a.tmps) {t : Nat} {want : Bool} (hg : i.grd = some (t, want)) (hb : e.get t = .tup []) : Region.wanted o (yielded ops a.tmps) = false := by
  unfold chkG at hc
  rw [hg] at hc
  split at hc
  · rename_i h1 h2; cases h2
  · rename_i j want2 t2 want' h1 h2
    cases h2
    simp only [Bool.and_eq_true, decide_eq_true_eq] at hc
    obtain ⟨rfl, hd⟩ := hc
    have hv := he t
    rw [hb] at hv
    have hv := skp_undef hv
    have hv2 : a.tmps[t]? ≠ some (.bool true) ∧ a.tmps[t]? ≠ some (.bool false) := by
      rw [Array.getD_eq_getD_getElem?] at hv
      constructor <;> (intro hx; rw [hx] at hv; simp at hv)
    have hy : yielded ops a.tmps j = none := by
      simp only [yielded, hd, Option.bind_some]
      split
      · rename_i b hb
        cases b
        · exact absurd hb hv2.2
        · exact absurd hb hv2.1
      · rfl
    simp [Region.wanted, h1, hy]
  · cases hc
theorem i_free {o : Oper} {i : I} {a : Act} (hc : chkG ops o i = true) (hg : i.grd = none) : Region.wanted o (yielded ops a.tmps) = true := by
  unfold chkG at hc
  rw [hg] at hc
  split at hc
  · rename_i h1 _; simp [Region.wanted, h1]
  · rename_i h1 h2; cases h2
  · cases hc

theorem seq_sound (hs : Sound P F cf) : ∀ (os : List Oper) (is : List I) (l : List Nat) (a : Act) (m : Emb) (e : Env) (h : AH) (w : World), chkIs P F nt ops os is = true → l.map (fun i => ops[i]?) = os.map some → evR cf is e h = some (e', h') →
    RelH F base m h w → RelEnv F m e a.tmps → nt ≤ a.tmps.size →
    (∀ a' w' m', a'.defers = a.defers → nt ≤ a'.tmps.size → RelEnv F m' e' a'.tmps → StepR F base m h w m' h' w' → Q .normal a' w') → wpOps P ops Q l a w
  | [], is, l, a, m, e, h, w, hc, hl, hev, hr, he, hn, hQ => by
    cases is with
    | cons _ _ => simp [chkIs] at hc
    | nil =>
      have : l = [] := by simpa using hl
      subst this
      simp only [evR, Option.some.injEq, Prod.mk.injEq] at hev
      obtain ⟨rfl, rfl⟩ := hev
      exact hQ a w m rfl hn he (StepR.refl hr)
  | o :: os, is, l, a, m, e, h, w, hc, hl, hev, hr, he, hn, hQ => by
    cases is with
    | nil => simp [chkIs] at hc
    | cons i is =>
    cases l with
    | nil => simp at hl
    | cons j l =>
    simp only [List.map_cons, List.cons.injEq] at hl
    obtain ⟨ho, hl⟩ := hl
    simp only [chkIs, Bool.and_eq_true, chkI] at hc
    obtain ⟨⟨⟨hd, hg⟩, hop⟩, hrest⟩ := hc
    obtain ⟨hdd, hdlt⟩ := chkD_lt hd
    simp only [evR] at hev
    split at hev
    case h_2 => cases hev
    rename_i e1 h1 hev1
    have go : ∀ (a1 : Act) (w1 : World) (m1 : Emb), a1.defers = a.defers → nt ≤ a1.tmps.size → RelEnv F m1 e1 a1.tmps → StepR F base m h w m1 h1 w1 → wpOps P ops Q l a1 w1 := by
      intro a1 w1 m1 k1 k2 k3 k4
      refine seq_sound hs os is l a1 m1 e1 h1 w1 hrest hl hev k4.rel k3 k2 ?_
      intro a' w' m' g1 g2 g3 g4
      exact hQ a' w' m' (g1.trans k1) g2 g3 (k4.trans g4)
    have run : (evOp cf (env e) h i.op).map (fun (v, h') => (put e i.dst v, h')) = some (e1, h1) → Region.wanted o (yielded ops a.tmps) = true → wpOps P ops Q (j :: l) a w := by
      intro hev hw
      simp only [Option.map_eq_some_iff, Prod.mk.injEq] at hev
      obtain ⟨⟨v, h2⟩, hv, rfl, rfl⟩ := hev
      simp only [wpOps, ho, hw, if_true]
      refine .inl (Oper.wp_mono ?_ (op_sound hs hr he hop hv Q))
      rintro a2 w2 ⟨v2, m2, rfl, hv2, hst⟩
      refine go _ w2 m2 (Act.put_defs ..) (by rw [Act.put_size]; exact hn) ?_ hst
      rw [← hdd]
      exact (he.mono hst.le).put hv2 o.dst (fun t ht => Nat.lt_of_lt_of_le (hdlt t ht) hn)
    unfold evI at hev1
    split at hev1
    · rename_i hgn
      exact run hev1 (i_free hg hgn)
    · rename_i t want hgs
      split at hev1
      · rename_i b hb
        have hw := i_wanted hg he hgs hb
        split at hev1
        · rename_i hbw
          exact run hev1 (by rw [hw]; simpa using hbw)
        · rename_i hbw
          simp only [Option.some.injEq, Prod.mk.injEq] at hev1
          obtain ⟨rfl, rfl⟩ := hev1
          have hw' : Region.wanted o (yielded ops a.tmps) = false := by rw [hw]; simpa using hbw
          simp only [wpOps, ho, hw', Bool.false_eq_true, if_false]
          refine go _ w m (Act.put_defs ..) (by rw [Act.put_size]; exact hn) ?_ (StepR.refl hr)
          rw [← hdd]
          exact he.put rel_skp o.dst (fun t ht => Nat.lt_of_lt_of_le (hdlt t ht) hn)
      · rename_i hb
        simp only [Option.some.injEq, Prod.mk.injEq] at hev1
        obtain ⟨rfl, rfl⟩ := hev1
        have hw' : Region.wanted o (yielded ops a.tmps) = false := i_skp hg he hgs hb
        simp only [wpOps, ho, hw', Bool.false_eq_true, if_false]
        refine go _ w m (Act.put_defs ..) (by rw [Act.put_size]; exact hn) ?_ (StepR.refl hr)
        rw [← hdd]
        exact he.put rel_skp o.dst (fun t ht => Nat.lt_of_lt_of_le (hdlt t ht) hn)
      · cases hev1

theorem reg_sound (hs : Sound P F cf) {is : List I} {id : Nat} {a : Act} (hc : chkIs P F nt ops ops.toList is = true) (hev : evR cf is e h = some (e', h')) (hr : RelH F base m h w) (he : RelEnv F m e a.tmps) (hn : nt ≤ a.tmps.size)
    (hQ : ∀ a' w' m', a'.defers = a.defers → nt ≤ a'.tmps.size → RelEnv F m' e' a'.tmps → StepR F base m h w m' h' w' → Q .normal a' w') : (Code.region id ops false).wp P Q a w := by
  refine wp_region (seq_sound hs ops.toList is _ a m e h w hc ?_ hev hr he hn hQ)
  apply List.ext_getElem?
  intro i
  simp only [List.getElem?_map, Array.getElem?_toList]
  by_cases hi : i < ops.size
  · rw [List.getElem?_range hi, Array.getElem?_eq_getElem hi]; simp [Array.getElem?_eq_getElem hi]
  · rw [List.getElem?_eq_none (by simpa using hi), Array.getElem?_eq_none (by simpa using hi)]; rfl

end
end Go.Proofs.YtnamhjdfegohbaaGreatDoor.Ab

/- DRAWN ORDERS, first part: what an operation reads and brings; what readers leave. -/
namespace Go.Proofs.YtnamhjdfegohbaaGreatDoor.Ab
open Go Go.RowKit

/-! ### Classes of operations -/
inductive K | q | l | a | m
  deriving DecidableEq
def AOp.kind : AOp → K
  | .load .. | .ofB .. | .look .. | .mlen .. | .subA .. => .l
  | .new .. | .box .. | .lit .. | .toB .. | .make .. | .mkmap | .rng .. => .a
  | .call .. | .callv .. | .store .. | .app .. | .appS .. | .mset .. | .nxt .. | .rngM .. | .ent .. | .copy .. | .clr .. => .m
  | _ => .q

def Opd.ts : Opd → List Nat
  | .t n => [n]
  | .c _ => []
def oOpd : Option Opd → List Opd
  | none => []
  | some x => [x]
def AOp.ods : AOp → List Opd
  | .mov x => [x]
  | .pick c a b => [c, a, b]
  | .bin _ x y | .beq _ x y | .aeq _ _ x y => [x, y]
  | .niq _ _ x | .un _ x | .conv _ x | .toB x | .ofB x | .ofR x => [x]
  | .new _ | .lit0 | .mkmap => []
  | .box x => [x]
  | .build _ ps | .lit _ _ _ ps => ps.map (·.2.2)
  | .load _ _ a => [a]
  | .store _ a x => [a, x]
  | .nck x => [x]
  | .faddr _ _ a => [a]
  | .fld _ _ _ x => [x]
  | .iaddr _ x i | .iaddrA _ _ x i | .idx _ _ _ x i | .idxS x i => [x, i]
  | .sub _ x lo hi | .subS x lo hi | .subA _ _ x lo hi => x :: (oOpd lo ++ oOpd hi)
  | .sub0 x hi mx => [x, hi, mx]
  | .make _ _ l c => [l, c]
  | .mkfn _ cs => cs
  | .look _ _ _ x k => [x, k]
  | .mset _ x k v => [x, k, v]
  | .mlen x | .rng x | .rngM x | .ent x | .nxt x => [x]
  | .prj _ x => [x]
  | .call _ xs => xs
  | .callv x xs => x :: xs
  | .lenS x | .lenV x => [x]
  | .app _ s x | .appS s x | .copy _ s x => [s, x]
  | .clr _ x => [x]
  | .mmx _ x y => [x, y]

theorem optv_congr {ρ ρ' : Opd → AV} {x : Option Opd} (h : ∀ y ∈ oOpd x, ρ y = ρ' y) : optv ρ x = optv ρ' x := by
  cases x with
  | none => rfl
  | some y => simp only [optv]; rw [h y (by simp [oOpd])]

/-- An operation sees its operands alone. -/
theorem evOp_congr {cf : CF} {ρ ρ' : Opd → AV} {h : AH} {op : AOp} (hx : ∀ x ∈ op.ods, ρ x = ρ' x) : evOp cf ρ h op = evOp cf ρ' h op := by
  cases op <;> simp only [AOp.ods] at hx <;> first
    | (simp only [evOp]; done)
    | (rename_i x; have h1 := hx x (by simp); simp only [evOp, h1]; done)
    | (rename_i x; have h1 : List.map ρ x = List.map ρ' x := List.map_congr_left hx; simp only [evOp, h1]; done)
    | (rename_i x y; have h1 := hx x (by simp); have h2 := hx y (by simp); simp only [evOp, h1, h2]; done)
    | (rename_i x y; have h1 := hx y (by simp); simp only [evOp, h1]; done)
    | (rename_i x y; have h1 := hx x (by simp); have h2 : List.map ρ y = List.map ρ' y := List.map_congr_left (fun z hz => hx z (by simp [hz])); simp only [evOp, h1, h2]; done)
    | (rename_i x y z; have h1 := hx x (by simp); have h2 := hx y (by simp); have h3 := hx z (by simp); simp only [evOp, h1, h2, h3]; done)
    | (rename_i x y z; have h2 := hx y (by simp); have h3 := hx z (by simp); simp only [evOp, h2, h3]; done)
    | (rename_i x y z; have h3 := hx z (by simp); simp only [evOp, h3]; done)
    | (rename_i x lo hi; have h1 := hx x (by simp); have h2 : optv ρ lo = optv ρ' lo := optv_congr (fun z hz => hx z (by simp [hz])); have h3 : optv ρ hi = optv ρ' hi := optv_congr (fun z hz => hx z (by simp [hz])); simp only [evOp, h1, h2, h3]; done)
    | (rename_i x y z u; have h1 := hx z (by simp); have h2 := hx u (by simp); simp only [evOp, h1, h2]; done)
    | (rename_i x y z u; have h1 := hx u (by simp); simp only [evOp, h1]; done)
    | (rename_i q x y z; have h1 := hx x (by simp); have h2 := hx y (by simp); have h3 := hx z (by simp); simp only [evOp, h1, h2, h3]; done)
    | (rename_i q x lo hi; have h1 := hx x (by simp); have h2 : optv ρ lo = optv ρ' lo := optv_congr (fun z hz => hx z (by simp [hz])); have h3 : optv ρ hi = optv ρ' hi := optv_congr (fun z hz => hx z (by simp [hz])); simp only [evOp, h1, h2, h3]; done)
    | (rename_i q p x lo hi; have h1 := hx x (by simp); have h2 : optv ρ lo = optv ρ' lo := optv_congr (fun z hz => hx z (by simp [hz])); have h3 : optv ρ hi = optv ρ' hi := optv_congr (fun z hz => hx z (by simp [hz])); simp only [evOp, h1, h2, h3]; done)
    | (rename_i q p s x y; have h1 := hx x (by simp); have h2 := hx y (by simp); simp only [evOp, h1, h2]; done)
    | (rename_i x ps; have h1 : List.map (fun (o, n, x) => (o, n, ρ x)) ps = List.map (fun (o, n, x) => (o, n, ρ' x)) ps := List.map_congr_left (fun z hz => by obtain ⟨o, n, y⟩ := z; simp only; rw [hx y (by simp only [List.mem_map]; exact ⟨_, hz, rfl⟩)]); simp only [evOp, h1]; done)
    | (rename_i q p x ps; have h1 : List.map (fun (o, n, x) => (o, n, ρ x)) ps = List.map (fun (o, n, x) => (o, n, ρ' x)) ps := List.map_congr_left (fun z hz => by obtain ⟨o, n, y⟩ := z; simp only; rw [hx y (by simp only [List.mem_map]; exact ⟨_, hz, rfl⟩)]); simp only [evOp, h1]; done)

/-- Pure ones hear nothing of the heap. -/
theorem evOp_q {cf : CF} {ρ : Opd → AV} {h : AH} {op : AOp} (hk : op.kind = .q) {v : AV} {h' : AH} (hev : evOp cf ρ h op = some (v, h')) (V : AH) : evOp cf ρ V op = some (v, V) := by
  cases op <;> simp only [AOp.kind] at hk <;> first
    | (cases hk; done)
    | (simp only [evOp] at hev ⊢
       first
         | (simp only [Option.some.injEq, Prod.mk.injEq] at hev; obtain ⟨rfl, rfl⟩ := hev; rfl)
         | (simp only [Option.map_eq_some_iff, Prod.mk.injEq] at hev ⊢; obtain ⟨u, hu, rfl, rfl⟩ := hev; exact ⟨u, hu, rfl, rfl⟩)
         | (repeat' split at hev
            all_goals first
              | (cases hev; done)
              | (simp only [Option.some.injEq, Prod.mk.injEq] at hev; obtain ⟨rfl, rfl⟩ := hev; simp [*]; done)
              | (simp only [Option.map_eq_some_iff, Prod.mk.injEq] at hev; obtain ⟨u, hu, rfl, rfl⟩ := hev; simp [*]; done)))

/-- Readers leave the heap as it is. -/
theorem evOp_l_same {cf : CF} {ρ : Opd → AV} {h h' : AH} {op : AOp} (hk : op.kind = .l) {v : AV} (hev : evOp cf ρ h op = some (v, h')) : h' = h := by
  cases op <;> simp only [AOp.kind] at hk <;> first
    | (cases hk; done)
    | (simp only [evOp] at hev
       repeat' split at hev
       all_goals first
         | (cases hev; done)
         | (cases hev; rfl)
         | (simp only [Option.map_eq_some_iff, Prod.mk.injEq] at hev; obtain ⟨u, hu, rfl, rfl⟩ := hev; rfl))
end Go.Proofs.YtnamhjdfegohbaaGreatDoor.Ab

/- REGIONS whose order is drawn: all that turns or reads the heap stands in one order. -/
namespace Go.Proofs.YtnamhjdfegohbaaGreatDoor.Ab
open Go Go.RowKit

/-! ### The checker -/
def mkMask (o : Oper) (acc : List Nat) : Nat := o.after.toList.foldl (fun s e => if Region.binds .any e then s ||| 2 ^ e.on ||| acc.getD e.on 0 else s) 0
def masks : List Oper → List Nat → List Nat
  | [], acc => acc
  | o :: os, acc => masks os (acc ++ [mkMask o acc])
def I.reads (x : I) : List Nat := x.op.ods.flatMap Opd.ts ++ (match x.grd with | some (t, _) => [t] | none => [])
def clashK : K → K → Bool
  | .q, _ | _, .q => false
  | .l, .l => false
  | _, _ => true
def pairOk (ps : List (Nat × Nat)) (i j : Nat) (x y : I) (bit : Bool) : Bool :=
  bit || ((match x.dst, y.dst with
    | some t, some u => decide (t ≠ u)
    | _, _ => true) && (match x.dst with
    | some t => decide (t ∉ y.reads)
    | none => true) && (match y.dst with
    | some t => decide (t ∉ x.reads)
    | none => true) && (!(clashK x.op.kind y.op.kind) || (decide (x.op.kind = .l) && clashK y.op.kind .l && ps.contains (i, j)) || (decide (y.op.kind = .l) && clashK x.op.kind .l && ps.contains (j, i)) || ps.contains (j, j)))
def dstsOk (x y : I) : Bool := match x.dst, y.dst with
  | some t, some u => decide (t ≠ u)
  | _, _ => true
def pairsOk (ps : List (Nat × Nat)) (B : List Nat) (is : List I) (y : I) (j : Nat) : Bool := (List.range j).all fun i => match is[i]? with
  | some x => dstsOk x y && pairOk ps i j x y ((B.getD j 0).testBit i)
  | none => false
def edgesOk : List Oper → Nat → Bool
  | [], _ => true
  | o :: os, i => o.after.toList.all (fun e => !Region.binds .any e || decide (e.on < i)) && edgesOk os (i + 1)
/-- Allocations that may come early: literals and new cells; what they bring, what they answer. -/
def AOp.isEa : AOp → Bool
  | .lit .. | .new _ => true
  | _ => false
def eaC (ρ : Opd → AV) : AOp → Option (List AV)
  | .lit _ _ z qs => fillP z (qs.map fun (o, n, y) => (o, n, ρ y))
  | .new z => some z
  | _ => none
def eaV (c : Nat) : AOp → AV
  | .lit esz len _ _ => .slice c 0 0 len esz
  | .new z => .ptr c 0 0 z.length
  | _ => .undef
def eaW (b : Nat) : AOp → Value
  | .lit _ len _ _ => .slice (some ⟨b, 0, none⟩) len len
  | _ => .pointer (some ⟨b, 0, none⟩)
def eaOk (cs : List AV) : AOp → Prop
  | .lit esz len _ _ => cs.length = len * esz
  | .new z => cs = z
  | _ => False
theorem ea_ev {cf : CF} {ρ : Opd → AV} {h : AH} {op : AOp} (he : op.isEa = true) : evOp cf ρ h op = (eaC ρ op).bind fun cs => (newRow h cs).map fun (c, h') => (eaV c op, h') := by
  cases op <;> simp only [AOp.isEa] at he <;> first
    | (cases he; done)
    | (simp only [evOp, eaC, eaV, Option.bind_some]; done)
    | (rename_i a b z qs
       simp only [evOp, eaC, eaV]
       cases fillP z (qs.map fun (o, n, y) => (o, n, ρ y)) with
       | none => rfl
       | some cs => rfl)
theorem ea_kind {op : AOp} (he : op.isEa = true) : op.kind = .a := by
  cases op <;> simp only [AOp.isEa] at he <;> first
    | (cases he; done)
    | rfl
theorem eaC_congr {ρ ρ' : Opd → AV} {op : AOp} (h : ∀ y ∈ op.ods, ρ y = ρ' y) : eaC ρ op = eaC ρ' op := by
  cases op <;> first
    | rfl
    | (rename_i a b z qs
       simp only [eaC]
       congr 1
       refine List.map_congr_left fun q hq => ?_
       obtain ⟨o', n', y⟩ := q
       simp only
       rw [h y (by simp only [AOp.ods, List.mem_map]; exact ⟨_, hq, rfl⟩)])
/-- An allocation that may be made early: what reads it is done in its turn. -/
def earlyOk (is : List I) (ps : List (Nat × Nat)) : Bool := (List.range is.length).all fun k => !ps.contains (k, k) || (match is[k]? with
  | some ⟨some t, op, none⟩ => op.isEa && ((is.all fun y => decide (t ∉ y.reads) || decide (y.op.kind = .m)) && (List.range is.length).all fun i => match is[i]? with
    | some y => !(decide (y.op.kind = .l)) || ps.contains (i, k)
    | none => true)
  | _ => false)
def drwOk (ops : Array Oper) (is : List I) (ps : List (Nat × Nat)) : Bool :=
  let B := masks ops.toList []
  edgesOk ops.toList 0 && (earlyOk is ps && (List.range is.length).all fun j => match is[j]? with
    | some y => pairsOk ps B is y j
    | none => false)

theorem mask_bit {o : Oper} {acc : List Nat} {i : Nat} (h : (mkMask o acc).testBit i = true) : ∃ e ∈ o.after.toList, Region.binds .any e = true ∧ (i = e.on ∨ (acc.getD e.on 0).testBit i = true) := by
  have gen : ∀ (l : List Edge) (s : Nat), (l.foldl (fun s e => if Region.binds .any e then s ||| 2 ^ e.on ||| acc.getD e.on 0 else s) s).testBit i = true → s.testBit i = true ∨ ∃ e ∈ l, Region.binds .any e = true ∧ (i = e.on ∨ (acc.getD e.on 0).testBit i = true) := by
    intro l
    induction l with
    | nil => intro s h; exact .inl h
    | cons e l ih =>
      intro s h
      simp only [List.foldl_cons] at h
      rcases ih _ h with h1 | ⟨e', he', h2⟩
      · split at h1
        · rename_i hb
          simp only [Nat.testBit_or, Bool.or_eq_true] at h1
          rcases h1 with (h1 | h1) | h1
          · exact .inl h1
          · refine .inr ⟨e, by simp, hb, .inl ?_⟩
            rw [Nat.testBit_two_pow] at h1
            exact (of_decide_eq_true h1).symm
          · exact .inr ⟨e, by simp, hb, .inr h1⟩
        · exact .inl h1
      · exact .inr ⟨e', by simp [he'], h2⟩
  rcases gen _ _ h with h1 | h1
  · simp at h1
  · exact h1

theorem masks_closed {S : Nat → Prop} : ∀ (os : List Oper) (acc : List Nat), (∀ k, k < acc.length → S k → ∀ i, (acc.getD k 0).testBit i = true → S i) →
    (∀ (k : Nat) (o : Oper), os[k]? = some o → S (acc.length + k) → ∀ e ∈ o.after.toList, Region.binds .any e = true → S e.on) → ∀ j, S j → ∀ i, ((masks os acc).getD j 0).testBit i = true → S i
  | [], acc, ha, _, j, hj, i, hb => by
    simp only [masks] at hb
    by_cases hlt : j < acc.length
    · exact ha j hlt hj i hb
    · rw [List.getD_eq_getElem?_getD, List.getElem?_eq_none (by omega)] at hb; simp at hb
  | o :: os, acc, ha, ho, j, hj, i, hb => by
    simp only [masks] at hb
    refine masks_closed os _ ?_ ?_ j hj i hb
    · intro k hk hSk i hb
      simp only [List.length_append, List.length_singleton] at hk
      by_cases hlt : k < acc.length
      · rw [List.getD_eq_getElem?_getD, List.getElem?_append_left hlt, ← List.getD_eq_getElem?_getD] at hb
        exact ha k hlt hSk i hb
      · have hke : k = acc.length := by omega
        subst hke
        rw [List.getD_eq_getElem?_getD, List.getElem?_append_right (Nat.le_refl _)] at hb
        simp only [Nat.sub_self, List.getElem?_cons_zero, Option.getD_some] at hb
        obtain ⟨e, he, hbd, h1⟩ := mask_bit hb
        have hSe := ho 0 o rfl hSk e he hbd
        rcases h1 with rfl | h1
        · exact hSe
        · by_cases hlt2 : e.on < acc.length
          · exact ha _ hlt2 hSe i h1
          · rw [List.getD_eq_getElem?_getD, List.getElem?_eq_none (by omega)] at h1; simp at h1
    · intro k o' hk hS
      refine ho (k + 1) o' (by simpa using hk) ?_
      simp only [List.length_append, List.length_singleton] at hS
      rwa [show acc.length + (k + 1) = acc.length + 1 + k by omega]

theorem edges_get : ∀ (os : List Oper) (b k : Nat) (o : Oper), edgesOk os b = true → os[k]? = some o → ∀ e ∈ o.after.toList, Region.binds .any e = true → e.on < b + k
  | [], _, _, _, _, h => by simp at h
  | o :: os, b, k, o', hc, h => by
    simp only [edgesOk, Bool.and_eq_true] at hc
    intro e he hb
    cases k with
    | zero =>
      simp at h; subst h
      have := List.all_eq_true.1 hc.1 e he
      simpa [hb] using this
    | succ k =>
      have := edges_get os (b + 1) k o' hc.2 (by simpa using h) e he hb
      omega

/-! ### The states between -/
theorem states {cf : CF} : ∀ (is : List I) (e : Env) (h : AH) (e' : Env) (h' : AH), evR cf is e h = some (e', h') → ∃ st : Nat → Env × AH, st 0 = (e, h) ∧ st is.length = (e', h') ∧ ∀ i x, is[i]? = some x → evI cf x (st i).1 (st i).2 = some (st (i + 1))
  | [], e, h, e', h', hev => by
    simp only [evR, Option.some.injEq, Prod.mk.injEq] at hev
    obtain ⟨rfl, rfl⟩ := hev
    exact ⟨fun _ => (e, h), rfl, rfl, fun i x hx => by simp at hx⟩
  | x :: is, e, h, e', h', hev => by
    simp only [evR] at hev
    split at hev
    · rename_i e1 h1 h2
      obtain ⟨st, s0, sn, ss⟩ := states is e1 h1 e' h' hev
      refine ⟨fun i => match i with | 0 => (e, h) | i + 1 => st i, rfl, sn, ?_⟩
      intro i y hy
      cases i with
      | zero => simp at hy; subst hy; simp only [h2, s0]
      | succ i => exact ss i y (by simpa using hy)
    · cases hev

theorem evI_env {cf : CF} {x : I} {e e' : Env} {h h' : AH} (hev : evI cf x e h = some (e', h')) {t : Nat} (ht : x.dst ≠ some t) : e'.get t = e.get t := by
  have key : ∀ v, (put e x.dst v).get t = e.get t := by
    intro v
    cases hd : x.dst with
    | none => rfl
    | some u =>
      simp only [put, Env.get_set]
      rw [if_neg]
      intro hu; subst hu; exact ht hd
  unfold evI at hev
  split at hev
  · simp only [Option.map_eq_some_iff, Prod.mk.injEq] at hev
    obtain ⟨⟨v, h2⟩, _, rfl, _⟩ := hev
    exact key v
  · split at hev
    · split at hev
      · simp only [Option.map_eq_some_iff, Prod.mk.injEq] at hev
        obtain ⟨⟨v, h2⟩, _, rfl, _⟩ := hev
        exact key v
      · simp only [Option.some.injEq, Prod.mk.injEq] at hev
        obtain ⟨rfl, _⟩ := hev
        exact key _
    · simp only [Option.some.injEq, Prod.mk.injEq] at hev
      obtain ⟨rfl, _⟩ := hev
      exact key _
    · cases hev

theorem evI_heap {cf : CF} {x : I} {e e' : Env} {h h' : AH} (hev : evI cf x e h = some (e', h')) (hk : clashK x.op.kind .l = false ∨ x.op.kind = .l) : h' = h := by
  have key : ∀ v h2, evOp cf (env e) h x.op = some (v, h2) → h2 = h := by
    intro v h2 ho
    rcases hk with hk | hk
    · cases hkk : x.op.kind <;> rw [hkk] at hk <;> simp [clashK] at hk
      · have := evOp_q hkk ho h
        rw [ho] at this; cases this; rfl
      · exact evOp_l_same hkk ho
    · exact evOp_l_same hk ho
  unfold evI at hev
  split at hev
  · simp only [Option.map_eq_some_iff, Prod.mk.injEq] at hev
    obtain ⟨⟨v, h2⟩, ho, _, rfl⟩ := hev
    exact key v _ ho
  · split at hev
    · split at hev
      · simp only [Option.map_eq_some_iff, Prod.mk.injEq] at hev
        obtain ⟨⟨v, h2⟩, ho, _, rfl⟩ := hev
        exact key v _ ho
      · simp only [Option.some.injEq, Prod.mk.injEq] at hev
        exact hev.2.symm
    · simp only [Option.some.injEq, Prod.mk.injEq] at hev
      exact hev.2.symm
    · cases hev

/-- Some slots of an environment alone. -/
def Env.only (l : List Nat) (e : Env) : Env := l.map fun t => (t, e.get t)
theorem only_get (l : List Nat) (e : Env) (t : Nat) : (Env.only l e).get t = if t ∈ l then e.get t else .undef := by
  induction l with
  | nil => simp [Env.only, Env.get]
  | cons u l ih =>
    simp only [Env.only, List.map_cons, Env.get, List.mem_cons]
    by_cases h : u = t
    · subst h; simp
    · rw [if_neg h]
      have := ih
      simp only [Env.only] at this
      rw [this]
      have h' : ¬ t = u := fun hh => h hh.symm
      simp only [h', false_or]


/-! ### What the checker gives -/
structure Fit (ps : List (Nat × Nat)) (B : List Nat) (is : List I) : Prop where
  dst : ∀ (i j : Nat) (x y : I) (t : Nat), i < j → is[i]? = some x → is[j]? = some y → x.dst = some t → y.dst = some t → False
  rd : ∀ (i j : Nat) (x y : I) (t : Nat), i < j → is[i]? = some x → is[j]? = some y → x.dst = some t → t ∈ y.reads → (B.getD j 0).testBit i = true
  wr : ∀ (i j : Nat) (x y : I) (t : Nat), i < j → is[i]? = some x → is[j]? = some y → y.dst = some t → t ∈ x.reads → (B.getD j 0).testBit i = true
  hp : ∀ (i j : Nat) (x y : I), i < j → is[i]? = some x → is[j]? = some y → clashK x.op.kind y.op.kind = true → (B.getD j 0).testBit i = true ∨ (x.op.kind = .l ∧ clashK y.op.kind .l = true ∧ (i, j) ∈ ps) ∨ (y.op.kind = .l ∧ clashK x.op.kind .l = true ∧ (j, i) ∈ ps) ∨ (j, j) ∈ ps
  esh : ∀ (k : Nat) (x : I), (k, k) ∈ ps → is[k]? = some x → ∃ t op, x = ⟨some t, op, none⟩ ∧ op.isEa = true
  erd : ∀ (k : Nat) (x : I) (t : Nat) (j : Nat) (y : I), (k, k) ∈ ps → is[k]? = some x → x.dst = some t → is[j]? = some y → t ∈ y.reads → y.op.kind = .m
  el : ∀ (k : Nat) (x : I) (i : Nat) (y : I), (k, k) ∈ ps → is[k]? = some x → is[i]? = some y → y.op.kind = .l → (i, k) ∈ ps

theorem fit_of {ops : Array Oper} {is : List I} {ps : List (Nat × Nat)} (h : drwOk ops is ps = true) : Fit ps (masks ops.toList []) is ∧ edgesOk ops.toList 0 = true := by
  simp only [drwOk, Bool.and_eq_true] at h
  obtain ⟨he, h0, h⟩ := h
  have early : ∀ (k : Nat) (x : I), (k, k) ∈ ps → is[k]? = some x → (∃ t op, x = ⟨some t, op, none⟩ ∧ op.isEa = true) ∧ (∀ (t : Nat) (j : Nat) (y : I), x.dst = some t → is[j]? = some y → t ∈ y.reads → y.op.kind = .m) ∧
      ∀ (i : Nat) (y : I), is[i]? = some y → y.op.kind = .l → (i, k) ∈ ps := by
    intro k x hk hx
    have hlt := (List.getElem?_eq_some_iff.1 hx).1
    have h1 := List.all_eq_true.1 h0 k (List.mem_range.2 hlt)
    rw [hx, List.contains_iff_mem.2 hk] at h1
    simp only [Bool.not_true, Bool.false_or] at h1
    split at h1
    · rename_i t op heq
      cases heq
      rw [Bool.and_eq_true, Bool.and_eq_true] at h1
      obtain ⟨h1e, h1⟩ := h1
      refine ⟨⟨t, op, rfl, h1e⟩, ?_, ?_⟩
      · intro t' j y ht hy hr
        cases ht
        have h2 := List.all_eq_true.1 h1.1 y (List.mem_of_getElem? hy)
        simp only [Bool.or_eq_true, decide_eq_true_iff] at h2
        rcases h2 with h2 | h2
        · exact absurd hr h2
        · exact h2
      · intro i y hy hl
        have hil := (List.getElem?_eq_some_iff.1 hy).1
        have h2 := List.all_eq_true.1 h1.2 i (List.mem_range.2 hil)
        rw [hy] at h2
        simp only [hl, decide_true, Bool.not_true, Bool.false_or] at h2
        exact List.contains_iff_mem.1 h2
    · cases h1
  have pair : ∀ (i j : Nat) (x y : I), i < j → is[i]? = some x → is[j]? = some y → dstsOk x y = true ∧ pairOk ps i j x y (((masks ops.toList []).getD j 0).testBit i) = true := by
    intro i j x y hij hx hy
    have hj := (List.getElem?_eq_some_iff.1 hy).1
    have h1 := List.all_eq_true.1 h j (List.mem_range.2 hj)
    rw [hy] at h1
    have h2 := List.all_eq_true.1 h1 i (List.mem_range.2 hij)
    rw [hx] at h2
    simpa using h2
  refine ⟨⟨?_, ?_, ?_, ?_, fun k x hk hx => (early k x hk hx).1, fun k x t j y hk hx => (early k x hk hx).2.1 t j y, fun k x i y hk hx => (early k x hk hx).2.2 i y⟩, he⟩
  · intro i j x y t hij hx hy h1 h2
    have := (pair i j x y hij hx hy).1
    simp [dstsOk, h1, h2] at this
  · intro i j x y t hij hx hy h1 h2
    have := (pair i j x y hij hx hy).2
    simp only [pairOk, Bool.or_eq_true, Bool.and_eq_true] at this
    rcases this with h3 | h3
    · exact h3
    · have := h3.1.1.2
      simp [h1, h2] at this
  · intro i j x y t hij hx hy h1 h2
    have := (pair i j x y hij hx hy).2
    simp only [pairOk, Bool.or_eq_true, Bool.and_eq_true] at this
    rcases this with h3 | h3
    · exact h3
    · have := h3.1.2
      simp [h1, h2] at this
  · intro i j x y hij hx hy h1
    have := (pair i j x y hij hx hy).2
    simp only [pairOk, Bool.or_eq_true, Bool.and_eq_true] at this
    rcases this with h3 | h3
    · exact .inl h3
    · rcases h3.2 with ((h4 | h4) | h4) | h4
      · simp [h1] at h4
      · exact .inr (.inl ⟨of_decide_eq_true h4.1.1, h4.1.2, List.contains_iff_mem.1 h4.2⟩)
      · exact .inr (.inr (.inl ⟨of_decide_eq_true h4.1.1, h4.1.2, List.contains_iff_mem.1 h4.2⟩))
      · exact .inr (.inr (.inr (List.contains_iff_mem.1 h4)))

def cnt (S : Nat → Bool) : Nat → Nat
  | 0 => 0
  | n + 1 => cnt S n + if S n then 0 else 1
theorem cnt_mono {S S' : Nat → Bool} (h : ∀ i, S i = true → S' i = true) : ∀ n, cnt S' n ≤ cnt S n
  | 0 => Nat.le_refl _
  | n + 1 => by
    have := cnt_mono h n
    simp only [cnt]
    cases h1 : S n
    · cases h2 : S' n <;> simp <;> omega
    · rw [h n h1]; simpa using this
theorem cnt_lt {S S' : Nat → Bool} (h : ∀ i, S i = true → S' i = true) {i : Nat} (h1 : S i = false) (h2 : S' i = true) : ∀ n, i < n → cnt S' n < cnt S n
  | 0, hn => by omega
  | n + 1, hn => by
    have hm := cnt_mono h n
    simp only [cnt]
    by_cases he : i = n
    · subst he; simp only [h1, h2, if_true, Bool.false_eq_true, if_false]; omega
    · have := cnt_lt h h1 h2 n (by omega)
      cases h3 : S n
      · cases h4 : S' n <;> simp <;> omega
      · rw [h n h3]; simpa using this
theorem cnt_zero {S : Nat → Bool} : ∀ n, cnt S n = 0 → ∀ i, i < n → S i = true
  | 0, _, i, hi => by omega
  | n + 1, h, i, hi => by
    simp only [cnt] at h
    by_cases he : i = n
    · subst he
      cases h1 : S i
      · simp [h1] at h
      · rfl
    · exact cnt_zero n (by omega) i (by omega)

section
variable {P : Program} {F : Nat → Nat} {base : Nat} {m m0 : Emb} {h h' : AH} {w w0 : World} {e e' : Env} {cf : CF} {nt : Nat} {ops : Array Oper} {Q : Exit → Act → World → Prop} {is : List I} {st : Nat → Env × AH}

theorem chk_get : ∀ {os : List Oper} {is : List I}, chkIs P F nt ops os is = true → os.length = is.length ∧ ∀ (i : Nat) (o : Oper) (x : I), os[i]? = some o → is[i]? = some x → chkI P F nt ops o x = true
  | [], [], _ => ⟨rfl, fun i o x h _ => by simp at h⟩
  | [], _ :: _, h => by simp [chkIs] at h
  | _ :: _, [], h => by simp [chkIs] at h
  | o :: os, x :: is, h => by
    simp only [chkIs, Bool.and_eq_true] at h
    obtain ⟨g1, g2⟩ := chk_get h.2
    refine ⟨by simp [g1], ?_⟩
    intro i o' x' h1 h2
    cases i with
    | zero => simp at h1 h2; subst h1; subst h2; exact h.1
    | succ i => exact g2 i o' x' (by simpa using h1) (by simpa using h2)

/-- No one writes a slot between: it is as it was. -/
theorem env_same (hst : ∀ (i : Nat) (x : I), is[i]? = some x → evI cf x (st i).1 (st i).2 = some (st (i + 1))) {t : Nat} : ∀ (d i : Nat), i + d ≤ is.length → (∀ (k : Nat) (x : I), i ≤ k → k < i + d → is[k]? = some x → x.dst ≠ some t) → (st (i + d)).1.get t = (st i).1.get t
  | 0, i, _, _ => rfl
  | d + 1, i, hl, hk => by
    have ih := env_same hst d i (by omega) (fun k x h1 h2 => hk k x h1 (by omega))
    obtain ⟨x, hx⟩ : ∃ x, is[i + d]? = some x := ⟨is[i + d]'(by omega), by simp⟩
    have := evI_env (hst (i + d) x hx) (hk (i + d) x (by omega) (by omega) hx)
    rw [← ih]; exact this
def AOp.heapy (op : AOp) : Bool := clashK op.kind .l
theorem heapy_not {op : AOp} (h : op.heapy = false) : clashK op.kind .l = false ∨ op.kind = .l := .inl h
end

/-! ### Literals that are laid early -/
theorem fillP_len : ∀ {l : List (Nat × Nat × AV)} {zs cs : List AV}, fillP zs l = some cs → cs.length = zs.length
  | [], zs, cs, h => by simp [fillP] at h; rw [h]
  | (o, n, x) :: l, zs, cs, h => by
    simp only [fillP] at h
    split at h
    · rename_i hc
      rw [fillP_len h, splice_length (by omega)]
    · cases h
/-- A block that is there already is taken for a new row. -/
theorem adopt {F : Nat → Nat} {base : Nat} {m0 m : Emb} {h0 h : AH} {w0 w : World} (hr : StepR F base m0 h0 w0 m h w) {cs : List AV} {us : Array Value} {b : Nat} {t : TypeId} {fr : Nat × Nat} (hb : w.heap[b]? = some (.cells us t fr)) (hfr : fr.2 ≤ fr.1) (hb0 : w0.heap.size ≤ b) (hbase : base ≤ w0.heap.size) (hnh : ¬ m.has b) (hvs : RelL F m cs us.toList) :
    m.le (m.addRow h.length 0 ⟨b, 0, 0, cs.length, us.size⟩) ∧ StepR F base m0 h0 w0 (m.addRow h.length 0 ⟨b, 0, 0, cs.length, us.size⟩) (h ++ [.row cs 0 0 false]) w := by
  have rl := hr.rel
  have hnone : ∀ k, m.row h.length k = none := by
    intro k
    cases hk : m.row h.length k with
    | none => rfl
    | some p => obtain ⟨o, ho, _⟩ := rl.rowc _ _ _ hk; simp at ho
  have hnone2 : m.obj h.length = none := by
    cases hk : m.obj h.length with
    | none => rfl
    | some p => obtain ⟨o, ho, _⟩ := rl.objc _ _ hk; simp at ho
  have hm : m.le (m.addRow h.length 0 ⟨b, 0, 0, cs.length, us.size⟩) := Emb.le_addRow (hnone 0)
  have hlen := hvs.length
  have hlen' : us.size = cs.length := by simpa using hlen
  have hblt := (Array.getElem?_eq_some_iff.1 hb).1
  refine ⟨hm, Emb.le_trans hr.le hm, ?_, hr.os, hr.tape, hr.out, hr.size, hr.frame, ?_, fun c b h => hr.newo c b h, ?_, by have := hr.len; simp; omega⟩
  · refine ⟨?_, ?_, ?_, ?_, rl.injo, ?_, ?_, rl.lto, ?_, rl.le⟩
    · intro c k p hp
      rcases Emb.addRow_inv hp with ⟨rfl, _, _⟩ | hp
      · exact ⟨.row cs 0 0 false, by simp, rfl⟩
      · obtain ⟨o, ho, hi⟩ := rl.rowc c k p hp
        exact ⟨o, by rw [List.getElem?_append_left (by have := List.getElem?_eq_some_iff.1 ho; exact this.1)]; exact ho, hi⟩
    · intro c b hb
      obtain ⟨o, ho, hi⟩ := rl.objc c b hb
      exact ⟨o, by rw [List.getElem?_append_left (by have := List.getElem?_eq_some_iff.1 ho; exact this.1)]; exact ho, hi⟩
    · intro c o hc
      by_cases hlt : c < h.length
      · rw [List.getElem?_append_left hlt] at hc
        refine ObjRel.keep (rl.ob c o hc) hm ?_ (fun b hb => hb) (fun _ _ _ => rfl) (fun _ _ => rfl)
        intro k p hp
        rcases Emb.addRow_inv hp with ⟨rfl, _, _⟩ | hp
        · omega
        · exact hp
      · rw [List.getElem?_append_right (by omega)] at hc
        have hce : c = h.length := by
          by_cases he : c = h.length
          · exact he
          · rw [List.getElem?_eq_none (by simp; omega)] at hc; cases hc
        subst hce
        simp only [Nat.sub_self, List.getElem?_cons_zero, Option.some.injEq] at hc
        subst hc
        intro k p hp _
        rcases Emb.addRow_inv hp with ⟨_, rfl, rfl⟩ | hp
        · refine ⟨Nat.le_refl _, Nat.le_refl _, fun _ => rfl, fun _ => Nat.le_trans hbase hb0, us, t, fr, hb, rfl, by simp; omega, fun _ => .inr hfr, ?_⟩
          intro j _ hj
          obtain ⟨x, hx⟩ : ∃ x, cs[j]? = some x := ⟨cs[j], by simp [hj]⟩
          obtain ⟨v, hv, hxv⟩ := hvs.get j x hx
          refine ⟨x, v, hx, ?_, RelV.mono hm _ _ hxv⟩
          simp only [Nat.zero_add, Nat.sub_zero]
          rwa [Array.getElem?_toList] at hv
        · rw [hnone k] at hp; cases hp
    · intro c k p c' k' p' hp hp' hb he
      rcases Emb.addRow_inv hp with ⟨rfl, rfl, rfl⟩ | hp <;> rcases Emb.addRow_inv hp' with ⟨rfl, rfl, rfl⟩ | hp'
      · exact ⟨rfl, rfl, rfl⟩
      · exact absurd (.inl ⟨_, _, _, hp', he.symm⟩) hnh
      · exact absurd (.inl ⟨_, _, _, hp, he⟩) hnh
      · exact rl.inj c k p c' k' p' hp hp' hb he
    · intro c k p c' b' hp hb' e
      rcases Emb.addRow_inv hp with ⟨rfl, rfl, rfl⟩ | hp
      · simp only at e
        subst e
        exact hnh (.inr ⟨c', hb'⟩)
      · exact rl.injr c k p c' b' hp hb' e
    · intro c k p hp
      rcases Emb.addRow_inv hp with ⟨rfl, rfl, rfl⟩ | hp
      · exact hblt
      · exact rl.ltr c k p hp
    · intro c cs' ver fl ro k p hc hp
      rcases Emb.addRow_inv hp with ⟨_, rfl, _⟩ | hp
      · omega
      · obtain ⟨o, ho, _⟩ := rl.rowc c k p hp
        have hlt := (List.getElem?_eq_some_iff.1 ho).1
        rw [List.getElem?_append_left hlt] at hc
        exact rl.vers c cs' ver fl ro k p hc hp
  · intro c k p hp
    rcases Emb.addRow_inv hp with ⟨rfl, rfl, rfl⟩ | hp
    · exact .inr ⟨.inl hr.len, .inl hb0⟩
    · exact hr.newr c k p hp
  · intro c hc hn
    rw [List.getElem?_append_left (by have := hr.len; omega)]
    exact hr.unpl c hc hn
/-- A block that is no one's stays so. -/
theorem has_not {F : Nat → Nat} {base : Nat} {m m' : Emb} {h h' : AH} {w w' : World} (hr : StepR F base m h w m' h' w') {b : Nat} (hb : b < w.heap.size) (hn : ¬ m.has b) : w'.heap[b]? = w.heap[b]? ∧ ¬ m'.has b := by
  refine ⟨hr.frame b hb (.inr hn), ?_⟩
  rintro (⟨c, k, p, hp, rfl⟩ | ⟨c, hc⟩)
  · rcases hr.newr c k p hp with h1 | ⟨_, h1 | ⟨k0, p0, h1, h2⟩⟩
    · exact hn (.inl ⟨c, k, p, h1, rfl⟩)
    · omega
    · exact hn (.inl ⟨c, k0, p0, h1, h2⟩)
  · rcases hr.newo c b hc with h1 | ⟨_, h1⟩
    · exact hn (.inr ⟨c, h1⟩)
    · omega
/-- A literal, as it is laid in the program's own world. -/
theorem lit_raw {P : Program} {F : Nat → Nat} {o : Oper} {a : Act} {m : Emb} {w : World} {e : Env} {esz len : Nat} {z : List AV} {qs : List (Nat × Nat × Opd)} (he : RelEnv F m e a.tmps) (hc : chkOp P F o.op (.lit esz len z qs) = true) {cs : List AV} (hf : fillP z (qs.map fun (o, n, y) => (o, n, env e y)) = some cs)
    (K : Act → World → Prop) (Q : Exit → Act → World → Prop) (hK : ∀ us t, RelL F m cs us.toList → K (a.put o.dst (.slice (some ⟨w.heap.size, 0, none⟩) len len)) (w.alloc (.cells us t))) : cs.length = len * esz ∧ o.wp P a w K Q := by
  have rel : ∀ {x y}, chkO F x y = true → RelV F m (env e y) (a.eval x) := fun h => chkO_rel he h
  generalize hop : o.op = q at hc
  cases q <;> first
    | (simp [chkOp, chkCall] at hc; done)
    | skip
  rename_i t n ps
  simp only [chkOp, Bool.and_eq_true, decide_eq_true_eq] at hc
  obtain ⟨rfl, h1⟩ := hc
  split at h1
  · rename_i e' hu
    simp only [Bool.and_eq_true, decide_eq_true_eq] at h1
    obtain ⟨⟨⟨⟨hs, h0⟩, hlen⟩, g4⟩, hp⟩ := h1
    split at g4
    · rename_i ie hie
      split at g4
      · rename_i zv hzv
        simp only [Bool.and_eq_true, decide_eq_true_eq] at g4
        have hcz := g4.1.1
        have h1 := g4.2
        obtain ⟨i', hi', hsz⟩ := sz_eq hs
        rw [hie] at hi'; cases hi'
        have hrelz := chkVs_rel (m := m) _ _ hcz
        obtain ⟨g1, g2⟩ := placesA_get hp
        obtain ⟨us, hus, hrel⟩ := parts_rel (a := a) (place := fun i => some (i * ie.size, ie.size)) hf hrelz g1 (by
          intro i j x off n y e1 e2
          obtain ⟨⟨ho, hn⟩, hxy⟩ := g2 i j x off n y e1 e2
          exact ⟨by rw [← ho, hn, hsz], rel hxy⟩)
        have hpl : (ps.map fun (i, x) => (i, a.eval x)).toList = ps.toList.map fun (i, x) => (i, a.eval x) := by simp
        have hpos : 0 < n * esz := Nat.mul_pos h1 h0
        have hrun := run_buildSlice (P := P) w t e' n (ps.map fun (i, x) => (i, a.eval x)) us ie zv hu hie hzv (by rw [hsz]; omega) (by rw [hsz]; omega) (by rw [hpl, hsz]; rw [hsz] at hus; exact hus)
        have hcl : cs.length = n * esz := by
          rw [fillP_len hf]
          have := hrelz.length
          simpa using this.symm
        refine ⟨hcl, ?_⟩
        unfold Oper.wp
        have : (execOp a.eval o).run P w = .ok (.value (.slice (some ⟨w.heap.size, 0, none⟩) n n)) (w.alloc (.cells us e')) := by
          simp only [execOp, hop, Sem.run_bind, hrun, Result.andThen, Sem.run_pure]
        rw [this]
        exact hK us e' hrel
      · cases g4
    · cases g4
  · cases h1

theorem new_raw {P : Program} {F : Nat → Nat} {o : Oper} {a : Act} {m : Emb} {w : World} {z : List AV} (hc : chkOp P F o.op (.new z) = true)
    (K : Act → World → Prop) (Q : Exit → Act → World → Prop) (hK : ∀ us t, RelL F m z us.toList → K (a.put o.dst (.pointer (some ⟨w.heap.size, 0, none⟩))) (w.alloc (.cells us t))) : o.wp P a w K Q := by
  generalize hop : o.op = q at hc
  cases q <;> first
    | (simp [chkOp, chkCall] at hc; done)
    | skip
  rename_i t
  obtain ⟨i, v, hi, hv, hcv, hsc⟩ := zer_eq (P := P) (F := F) (t := t) (z := z) hc
  have hrel : RelL F m z v.cells.toList := chkVs_rel _ _ hcv
  unfold Oper.wp
  have : (execOp a.eval o).run P w = .ok (.value (.pointer (some ⟨w.heap.size, 0, none⟩))) (w.alloc (.cells v.cells t)) := by
    simp [execOp, hop, Instr.alloc, zeroValue, typeInfo, hi, hv, newVar, Go.newRow]
  rw [this]
  exact hK v.cells t hrel
theorem ea_raw {P : Program} {F : Nat → Nat} {o : Oper} {a : Act} {m : Emb} {w : World} {e : Env} {op : AOp} (he : RelEnv F m e a.tmps) (hea : op.isEa = true) (hc : chkOp P F o.op op = true) {cs : List AV} (hf : eaC (env e) op = some cs)
    (K : Act → World → Prop) (Q : Exit → Act → World → Prop) (hK : ∀ us t, RelL F m cs us.toList → K (a.put o.dst (eaW w.heap.size op)) (w.alloc (.cells us t))) : eaOk cs op ∧ o.wp P a w K Q := by
  cases op <;> simp only [AOp.isEa] at hea <;> first
    | (cases hea; done)
    | (simp only [eaC, Option.some.injEq] at hf
       subst hf
       exact ⟨rfl, new_raw hc K Q hK⟩)
    | (exact lit_raw he hc hf K Q hK)
/-- An allocation that was made ahead of its turn. -/
def EarlyAt (F : Nat → Nat) (m : Emb) (w0 w : World) (e : Env) (x : I) (b : Nat) (a : Act) : Prop := ∃ t op cs us ty, x = ⟨some t, op, none⟩ ∧ op.isEa = true ∧ eaC (env e) op = some cs ∧ eaOk cs op ∧
  RelL F m cs us.toList ∧ w.heap[b]? = some (.cells us ty (0, 0)) ∧ w0.heap.size ≤ b ∧ ¬ m.has b ∧ a.tmps.getD t undef = eaW b op
/-- What holds when some operations have been carried out: those that turn the heap up to p, and some literals ahead of their turn. -/
structure Inv (F : Nat → Nat) (base nt : Nat) (m0 : Emb) (w0 : World) (ds : List Deferred) (is : List I) (st : Nat → Env × AH) (ops : Array Oper) (ps : List (Nat × Nat)) (S : Nat → Bool) (p : Nat) (eb : Nat → Nat) (m : Emb) (a : Act) (w : World) : Prop where
  defs : a.defers = ds
  size : nt ≤ a.tmps.size
  done : ∀ (t k : Nat) (x : I), is[k]? = some x → x.dst = some t → S k = true → (k < p ∨ (k, k) ∉ ps) → RelV F m ((st is.length).1.get t) (a.tmps.getD t undef)
  todo : ∀ t, (∀ (k : Nat) (x : I), is[k]? = some x → x.dst = some t → S k = false) → RelV F m ((st 0).1.get t) (a.tmps.getD t undef)
  closed : ∀ (k : Nat) (o : Oper), ops[k]? = some o → S k = true → ∀ e ∈ o.after.toList, Region.binds .any e = true → S e.on = true
  ple : p ≤ is.length
  low : ∀ (k : Nat) (x : I), k < p → is[k]? = some x → x.op.heapy = true → S k = true
  upp : ∀ (k : Nat) (x : I), p ≤ k → is[k]? = some x → x.op.heapy = true → S k = true → (k, k) ∈ ps
  step : StepR F base m0 (st 0).2 w0 m (st p).2 w
  b0 : base ≤ w0.heap.size
  early : ∀ (k : Nat) (x : I), p ≤ k → is[k]? = some x → (k, k) ∈ ps → S k = true → EarlyAt F m w0 w (st k).1 x (eb k) a
  einj : ∀ (k k' : Nat), p ≤ k → p ≤ k' → (k, k) ∈ ps → (k', k') ∈ ps → S k = true → S k' = true → k < is.length → k' < is.length → eb k = eb k' → k = k'

theorem lit_heapy {x : I} {t : Nat} {op : AOp} (hx : x = ⟨some t, op, none⟩) (he : op.isEa = true) : x.op.heapy = true := by subst hx; simp [AOp.heapy, ea_kind he, clashK]

section
variable {P : Program} {F : Nat → Nat} {base : Nat} {m m0 : Emb} {w w0 : World} {cf : CF} {nt : Nat} {ops : Array Oper} {Q : Exit → Act → World → Prop} {is : List I} {st : Nat → Env × AH} {ps : List (Nat × Nat)} {B : List Nat} {S : Nat → Bool} {ds : List Deferred} {p : Nat} {eb : Nat → Nat} {a : Act}

/-- One step further with what is done. -/
theorem advance (hst : ∀ (i : Nat) (x : I), is[i]? = some x → evI cf x (st i).1 (st i).2 = some (st (i + 1))) (hf : Fit ps B is) (hi : Inv F base nt m0 w0 ds is st ops ps S p eb m a w) (hlt : p < is.length) (hS : ∀ x, is[p]? = some x → x.op.heapy = true → S p = true) :
    ∃ m', Inv F base nt m0 w0 ds is st ops ps S (p + 1) eb m' a w := by
  obtain ⟨x, hx⟩ : ∃ x, is[p]? = some x := ⟨is[p], by simp⟩
  by_cases hh : x.op.heapy = true
  · have hSp := hS x hx hh
    have hpe := hi.upp p x (Nat.le_refl _) hx hh hSp
    obtain ⟨t, op, cs, us, ty, rfl, hea, hfil, hcl, hrel, hblk, hb0, hnh, htmp⟩ := hi.early p x (Nat.le_refl _) hx hpe hSp
    obtain ⟨hle, hst'⟩ := adopt hi.step hblk (Nat.le_refl _) hb0 hi.b0 hnh hrel
    have hev := hst p _ hx
    simp only [evI, ea_ev hea, hfil, Option.bind_some, newRow] at hev
    split at hev
    · rename_i hsc
      simp only [Option.map_some, Option.some.injEq] at hev
      have hul : us.size = cs.length := by have := hrel.length; simpa using this
      have hheap : (st (p + 1)).2 = (st p).2 ++ [.row cs 0 0 false] := by rw [← hev]
      have henv : (st (p + 1)).1 = (st p).1.set t (eaV (st p).2.length op) := by rw [← hev]; rfl
      refine ⟨_, ⟨hi.defs, hi.size, ?_, fun t' ht => RelV.mono hle _ _ (hi.todo t' ht), hi.closed, by omega, ?_, ?_, by rw [hheap]; exact hst', hi.b0, ?_, ?_⟩⟩
      · intro t' k y hy hyt hSk hk
        by_cases hkp : k = p
        · subst hkp
          rw [hx] at hy; cases hy
          simp only [Option.some.injEq] at hyt
          subst hyt
          have uniq : ∀ (q : Nat) (zz : I), is[q]? = some zz → zz.dst = some t → q = k := by
            intro q zz hz hzt
            rcases Nat.lt_trichotomy q k with h1 | h1 | h1
            · exact absurd (hf.dst q k zz _ t h1 hz hx hzt rfl) id
            · exact h1
            · exact absurd (hf.dst k q _ zz t h1 hx hz rfl hzt) id
          have := env_same hst (is.length - (k + 1)) (k + 1) (by omega) (t := t) (fun q zz g1 g2 hz hzt => by have := uniq q zz hz hzt; omega)
          rw [show k + 1 + (is.length - (k + 1)) = is.length by omega] at this
          rw [this, henv, Env.get_set, if_pos rfl, htmp]
          cases op <;> simp only [AOp.isEa] at hea <;> first
            | (cases hea; done)
            | (rename_i z
               simp only [eaOk] at hcl
               subst hcl
               simp only [eaV, eaW, RelV]
               exact ⟨_, Emb.addRow_at _ _ _ _, rfl, Nat.le_refl _, by simp⟩)
            | (rename_i esz len z qs
               simp only [eaOk] at hcl
               simp only [eaV, eaW, RelV]
               exact ⟨_, 0, len, Emb.addRow_at _ _ _ _, rfl, Nat.le_refl _, .inr ⟨Nat.le_refl _, rfl, by simp only; omega, by simp only; omega⟩⟩)
        · exact RelV.mono hle _ _ (hi.done t' k y hy hyt hSk (hk.imp (fun h => by omega) id))
      · intro k y hk hy hyh
        by_cases hkp : k = p
        · rw [hkp]; exact hSp
        · exact hi.low k y (by omega) hy hyh
      · intro k y hk hy hyh hSk
        exact hi.upp k y (by omega) hy hyh hSk
      · intro k y hk hy hke hSk
        obtain ⟨t2, op2, cs2, us2, ty2, rfl, k0, k1, k2, k3, k4, k5, k6, k7⟩ := hi.early k y (by omega) hy hke hSk
        refine ⟨t2, op2, cs2, us2, ty2, rfl, k0, k1, k2, RelL.mono hle _ _ k3, k4, k5, ?_, k7⟩
        rintro (⟨c, kk, q, hq, hqb⟩ | ⟨c, hc⟩)
        · rcases Emb.addRow_inv hq with ⟨rfl, rfl, rfl⟩ | hq
          · have hlk := (List.getElem?_eq_some_iff.1 hy).1
            have := hi.einj p k (Nat.le_refl _) (by omega) hpe hke hSp hSk hlt hlk hqb
            omega
          · exact k6 (.inl ⟨c, kk, q, hq, hqb⟩)
        · exact k6 (.inr ⟨c, hc⟩)
      · intro k k' g1 g2
        exact hi.einj k k' (by omega) (by omega)
    · simp at hev
  · have hh' : x.op.heapy = false := by simpa using hh
    have hne : (p, p) ∉ ps := fun hpe => by
      obtain ⟨t, op, he, hea⟩ := hf.esh p x hpe hx
      rw [lit_heapy he hea] at hh'; cases hh'
    have hsame : (st (p + 1)).2 = (st p).2 := evI_heap (hst p x hx) (heapy_not hh')
    refine ⟨m, ⟨hi.defs, hi.size, ?_, hi.todo, hi.closed, by omega, ?_, ?_, by rw [hsame]; exact hi.step, hi.b0, fun k y hk => hi.early k y (by omega), fun k k' g1 g2 => hi.einj k k' (by omega) (by omega)⟩⟩
    · intro t k y hy hyt hSk hk
      refine hi.done t k y hy hyt hSk ?_
      by_cases hkp : k = p
      · rw [hkp]; exact .inr hne
      · exact hk.imp (fun h => by omega) id
    · intro k y hk hy hyh
      by_cases hkp : k = p
      · subst hkp; rw [hx] at hy; cases hy; rw [hh'] at hyh; cases hyh
      · exact hi.low k y (by omega) hy hyh
    · intro k y hk hy hyh hSk
      exact hi.upp k y (by omega) hy hyh hSk
theorem advanceTo (hst : ∀ (i : Nat) (x : I), is[i]? = some x → evI cf x (st i).1 (st i).2 = some (st (i + 1))) (hf : Fit ps B is) (i : Nat) (hil : i ≤ is.length) : ∀ (d p : Nat) (m : Emb), p + d = i → Inv F base nt m0 w0 ds is st ops ps S p eb m a w → (∀ (k : Nat) (x : I), p ≤ k → k < i → is[k]? = some x → x.op.heapy = true → S k = true) →
    ∃ m', Inv F base nt m0 w0 ds is st ops ps S i eb m' a w
  | 0, p, m, hd, hi, _ => ⟨m, by rw [← hd]; exact hi⟩
  | d + 1, p, m, hd, hi, hS => by
    obtain ⟨m', hi'⟩ := advance hst hf hi (by omega) (fun x hx hh => hS p x (Nat.le_refl _) (by omega) hx hh)
    exact advanceTo hst hf i hil d (p + 1) m' (by omega) hi' (fun k x hk => hS k x (by omega))
end

section
variable {P : Program} {F : Nat → Nat} {base : Nat} {m m0 : Emb} {h h' : AH} {w w0 : World} {e e' : Env} {cf : CF} {nt : Nat} {ops : Array Oper} {Q : Exit → Act → World → Prop} {is : List I} {st : Nat → Env × AH}

theorem inv_end {ps : List (Nat × Nat)} {B : List Nat} {S : Nat → Bool} {ds : List Deferred} {p : Nat} {eb : Nat → Nat} {a : Act} (hst : ∀ (i : Nat) (x : I), is[i]? = some x → evI cf x (st i).1 (st i).2 = some (st (i + 1))) (hf : Fit ps B is) (hi0 : Inv F base nt m0 w0 ds is st ops ps S p eb m a w) (hall : ∀ k, k < is.length → S k = true) :
    ∃ m', RelEnv F m' (st is.length).1 a.tmps ∧ StepR F base m0 (st 0).2 w0 m' (st is.length).2 w := by
  obtain ⟨m', hi⟩ := advanceTo hst hf is.length (Nat.le_refl _) (is.length - p) p m (by have := hi0.ple; omega) hi0 (fun k x _ hk _ _ => hall k hk)
  refine ⟨m', ?_, hi.step⟩
  intro t
  by_cases hw : ∃ (k : Nat) (x : I), is[k]? = some x ∧ x.dst = some t
  · obtain ⟨k, x, hx, ht⟩ := hw
    have hlt := (List.getElem?_eq_some_iff.1 hx).1
    exact hi.done t k x hx ht (hall k hlt) (.inl hlt)
  · have hn : ∀ (k : Nat) (x : I), is[k]? = some x → x.dst ≠ some t := fun k x h1 h2 => hw ⟨k, x, h1, h2⟩
    have := env_same hst is.length 0 (by omega) (t := t) (fun k x _ _ h1 => hn k x h1)
    rw [Nat.zero_add] at this
    rw [this]
    exact hi.todo t fun k x h1 h2 => absurd h2 (hn k x h1)

theorem reads_od {x : I} {y : Opd} (hy : y ∈ x.op.ods) {t : Nat} (ht : t ∈ y.ts) : t ∈ x.reads := by
  simp only [I.reads, List.mem_append, List.mem_flatMap]
  exact .inl ⟨y, hy, ht⟩
theorem env_only {x : I} {e : Env} : ∀ y ∈ x.op.ods, env e y = env (Env.only x.reads e) y := by
  intro y hy
  cases y with
  | c v => rfl
  | t n =>
    simp only [env, only_get]
    rw [if_pos (reads_od hy (by simp [Opd.ts]))]

theorem read_same (hst : ∀ (i : Nat) (x : I), is[i]? = some x → evI cf x (st i).1 (st i).2 = some (st (i + 1))) {op : AOp} {ρ : Opd → AV} : ∀ (d i : Nat), i + d ≤ is.length →
    (∀ (k : Nat) (x : I), i ≤ k → k < i + d → is[k]? = some x → x.op.heapy = false ∨ (evOp noCall ρ (st k).2 op).map (·.1) = (evOp noCall ρ (st (k + 1)).2 op).map (·.1)) →
    (evOp noCall ρ (st (i + d)).2 op).map (·.1) = (evOp noCall ρ (st i).2 op).map (·.1)
  | 0, i, _, _ => rfl
  | d + 1, i, hl, hk => by
    have ih := read_same hst d i (by omega) (fun k x h1 h2 => hk k x h1 (by omega))
    obtain ⟨x, hx⟩ : ∃ x, is[i + d]? = some x := ⟨is[i + d]'(by omega), by simp⟩
    rcases hk (i + d) x (by omega) (by omega) hx with h1 | h1
    · have := evI_heap (hst (i + d) x hx) (heapy_not h1)
      rw [show i + (d + 1) = i + d + 1 by omega, this]; exact ih
    · rw [show i + (d + 1) = i + d + 1 by omega, ← h1]; exact ih

theorem put_other {a : Act} {d : Option Nat} {v : Value} {t : Nat} (h : d ≠ some t) : (a.put d v).tmps.getD t undef = a.tmps.getD t undef := by
  cases hod : d with
  | none => rfl
  | some u =>
    simp only [Act.put]
    rw [getD_set, if_neg]
    rintro ⟨rfl, _⟩
    exact h hod
theorem StepR.grown {F : Nat → Nat} {base : Nat} {m : Emb} {h : AH} {w w' : World} (hr : RelH F base m h w) (hold : ∀ b : Nat, b < w.heap.size → w'.heap[b]? = w.heap[b]?) (hsz : w.heap.size ≤ w'.heap.size) (ho : w'.os = w.os) (ht : w'.tape = w.tape) (hu : w'.output = w.output) : StepR F base m h w m h w' := by
  refine ⟨Emb.le_refl m, ⟨hr.rowc, hr.objc, ?_, hr.inj, hr.injo, hr.injr, ?_, ?_, hr.vers, Nat.le_trans hr.le hsz⟩, ho, ht, hu, hsz, fun b hb _ => hold b hb, fun _ _ _ h => .inl h, fun _ _ h => .inl h, fun _ _ _ => rfl, Nat.le_refl _⟩
  · intro c ob hc
    exact ObjRel.keep (hr.ob c ob hc) (Emb.le_refl m) (fun _ _ h => h) (fun _ h => h) (fun k p hp => hold _ (hr.ltr c k p hp)) (fun b hb => hold _ (hr.lto c b hb))
  · intro c k p hp; exact Nat.lt_of_lt_of_le (hr.ltr c k p hp) hsz
  · intro c b hb; exact Nat.lt_of_lt_of_le (hr.lto c b hb) hsz
theorem inv_step (hs : Sound P F cf) (hst : ∀ (i : Nat) (x : I), is[i]? = some x → evI cf x (st i).1 (st i).2 = some (st (i + 1))) {ps : List (Nat × Nat)} (hf : Fit ps (masks ops.toList []) is) (hstb : ∀ q ∈ ps, q.1 ≠ q.2 → ∀ o : I, is[q.1]? = some o → q.2 < is.length → (evOp noCall (env (st q.1).1) (st q.2).2 o.op).map (·.1) = (evOp noCall (env (st q.1).1) (st (q.2 + 1)).2 o.op).map (·.1))
    {S S' : Nat → Bool} {ds : List Deferred} {p0 : Nat} {eb : Nat → Nat} {m00 : Emb} {a : Act} (hinv0 : Inv F base nt m0 w0 ds is st ops ps S p0 eb m00 a w)
    {i : Nat} {o : Oper} {x : I} (ho : ops[i]? = some o) (hx : is[i]? = some x) (hc : chkI P F nt ops o x = true) (hSi : S i = false) (hS' : ∀ k, S' k = true ↔ k = i ∨ S k = true) (hready : ∀ e ∈ o.after.toList, Region.binds .any e = true → S e.on = true)
    {K : Act → World → Prop} (hK : ∀ a' w' m' p' eb', Inv F base nt m0 w0 ds is st ops ps S' p' eb' m' a' w' → K a' w') : wpOp P ops Q i K a w := by
  have hlt : i < is.length := (List.getElem?_eq_some_iff.1 hx).1
  simp only [chkI, Bool.and_eq_true] at hc
  obtain ⟨⟨hd, hg⟩, hop⟩ := hc
  obtain ⟨hdd, hdlt⟩ := chkD_lt hd
  have hcl' : ∀ (k : Nat) (o' : Oper), ops.toList[k]? = some o' → S' (([] : List Nat).length + k) = true → ∀ e ∈ o'.after.toList, Region.binds .any e = true → S' e.on = true := by
    intro k o' hk hSk e he hb
    simp only [List.length_nil, Nat.zero_add] at hSk
    rw [Array.getElem?_toList] at hk
    rcases (hS' k).1 hSk with rfl | h1
    · rw [ho] at hk; cases hk
      exact (hS' _).2 (.inr (hready e he hb))
    · exact (hS' _).2 (.inr (hinv0.closed k o' hk h1 e he hb))
  have fact1 : ∀ q, q < i → ((masks ops.toList []).getD i 0).testBit q = true → S q = true := by
    intro q hq hb
    have := masks_closed (S := fun k => S' k = true) ops.toList [] (fun k hk => by simp at hk) hcl' i ((hS' i).2 (.inl rfl)) q hb
    rcases (hS' q).1 this with h1 | h1
    · omega
    · exact h1
  have fact2 : ∀ q, i < q → ((masks ops.toList []).getD q 0).testBit i = true → S q = false := by
    intro q hq hb
    cases hSq : S q
    · rfl
    · have := masks_closed (S := fun k => S k = true) ops.toList [] (fun k hk => by simp at hk) (fun k o' hk hSk => by
        simp only [List.length_nil, Nat.zero_add] at hSk
        rw [Array.getElem?_toList] at hk
        exact hinv0.closed k o' hk hSk) q hSq i hb
      rw [hSi] at this; cases this
  have uniqI : ∀ (t : Nat), x.dst = some t → ∀ (q : Nat) (z : I), is[q]? = some z → z.dst = some t → q = i := by
    intro t hxt q z hz hzt
    rcases Nat.lt_trichotomy q i with h1 | h1 | h1
    · exact absurd (hf.dst q i z x t h1 hz hx hzt hxt) id
    · exact h1
    · exact absurd (hf.dst i q x z t h1 hx hz hxt hzt) id
  have odst : ∀ (t : Nat) (q : Nat) (z : I), is[q]? = some z → z.dst = some t → q ≠ i → o.dst ≠ some t := by
    intro t q z hz hzt hqi hod
    exact hqi (uniqI t (hdd ▸ hod) q z hz hzt)
  -- what it reads
  have reads : ∀ (p : Nat) (m : Emb), Inv F base nt m0 w0 ds is st ops ps S p eb m a w → (x.op.kind = .m → p = i) → RelEnv F m (Env.only x.reads (st i).1) a.tmps := by
    intro p m hinv hpm t
    rw [only_get]
    split
    case isFalse => simp only [RelV]
    rename_i ht
    by_cases hw : ∃ (k : Nat) (y : I), is[k]? = some y ∧ y.dst = some t
    · obtain ⟨k, y, hy, hyt⟩ := hw
      have uniq : ∀ (q : Nat) (z : I), is[q]? = some z → z.dst = some t → q = k := by
        intro q z hz hzt
        rcases Nat.lt_trichotomy q k with h1 | h1 | h1
        · exact absurd (hf.dst q k z y t h1 hz hy hzt hyt) id
        · exact h1
        · exact absurd (hf.dst k q y z t h1 hy hz hyt hzt) id
      have pre : ¬ k < i → S k = false → RelV F m ((st i).1.get t) (a.tmps.getD t undef) := by
        intro hki hSk
        have := env_same hst i 0 (by omega) (t := t) (fun q z h1 h2 hz hzt => by have := uniq q z hz hzt; omega)
        rw [Nat.zero_add] at this
        rw [this]
        exact hinv.todo t fun q z hz hzt => by rw [uniq q z hz hzt]; exact hSk
      rcases Nat.lt_trichotomy k i with h1 | h1 | h1
      · have hSk := fact1 k h1 (hf.rd k i y x t h1 hy hx hyt ht)
        have := env_same hst (is.length - i) i (by omega) (t := t) (fun q z g1 g2 hz hzt => by have := uniq q z hz hzt; omega)
        rw [show i + (is.length - i) = is.length by omega] at this
        rw [← this]
        refine hinv.done t k y hy hyt hSk ?_
        by_cases hke : (k, k) ∈ ps
        · have := hpm (hf.erd k y t i x hke hy hyt hx ht)
          exact .inl (by omega)
        · exact .inr hke
      · exact pre (by omega) (by rw [h1]; exact hSi)
      · exact pre (by omega) (fact2 k h1 (hf.wr i k x y t h1 hx hy hyt ht))
    · have hn : ∀ (k : Nat) (y : I), is[k]? = some y → y.dst ≠ some t := fun k y h1 h2 => hw ⟨k, y, h1, h2⟩
      have := env_same hst i 0 (by omega) (t := t) (fun q z _ _ hz => hn q z hz)
      rw [Nat.zero_add] at this
      rw [this]
      exact hinv.todo t fun q z hz hzt => absurd hzt (hn q z hz)
  by_cases hearly : (i, i) ∈ ps
  · -- a literal, laid ahead of its turn or in it
    obtain ⟨t, op, hxe, hea⟩ := hf.esh i x hearly hx
    have hnm : x.op.kind = .m → p0 = i := fun h => by rw [hxe] at h; rw [ea_kind hea] at h; cases h
    have hrel := reads p0 m00 hinv0 hnm
    have hev := hst i x hx
    have hxd : x.dst = some t := by rw [hxe]
    have hod : o.dst = some t := hdd.trans hxd
    obtain ⟨cs, hfil⟩ : ∃ cs, eaC (env (st i).1) op = some cs := by
      rw [hxe] at hev
      simp only [evI, ea_ev hea] at hev
      cases hfc : eaC (env (st i).1) op with
      | none => rw [hfc] at hev; simp at hev
      | some cs => exact ⟨cs, rfl⟩
    have hfil' : eaC (env (Env.only x.reads (st i).1)) op = some cs := by
      rw [← hfil]
      exact (eaC_congr fun y hy => env_only (x := x) (e := (st i).1) y (by rw [hxe]; exact hy)).symm
    have hop' : chkOp P F o.op op = true := by rw [hxe] at hop; exact hop
    have hw : Region.wanted o (yielded ops a.tmps) = true := i_free hg (by rw [hxe])
    have key := ea_raw (o := o) (a := a) (w := w) hrel hea hop' hfil' K Q
    have hcl := (ea_raw (o := o) (a := a) (w := w) hrel hea hop' hfil' (fun _ _ => True) (fun _ _ _ => True) (fun _ _ _ => trivial)).1
    unfold wpOp
    simp only [ho, hw, if_true]
    refine .inl (key ?_).2
    intro us ty hus
    have hold : ∀ b : Nat, b < w.heap.size → (w.alloc (.cells us ty)).heap[b]? = w.heap[b]? := fun b hb => by rw [alloc_heap, Array.getElem?_push, if_neg (by omega)]
    have hnew : (w.alloc (.cells us ty)).heap[w.heap.size]? = some (.cells us ty (0, 0)) := by rw [alloc_heap]; simp
    have hblt : ∀ (k : Nat) (y : I), p0 ≤ k → is[k]? = some y → (k, k) ∈ ps → S k = true → eb k < w.heap.size := by
      intro k y hk hy hke hSk
      obtain ⟨_, _, _, _, _, _, _, _, _, _, hh, _⟩ := hinv0.early k y hk hy hke hSk
      exact (Array.getElem?_eq_some_iff.1 hh).1
    have hip : ¬ i < p0 := fun h => by
      have := hinv0.low i x h hx (lit_heapy hxe hea)
      rw [hSi] at this; cases this
    have hgr := StepR.grown (w' := w.alloc (.cells us ty)) hinv0.step.rel hold (by rw [alloc_heap]; simp) rfl rfl rfl
    refine hK _ _ m00 p0 (fun k => if k = i then w.heap.size else eb k) ⟨by rw [Act.put_defs]; exact hinv0.defs, by rw [Act.put_size]; exact hinv0.size, ?_, ?_, ?_, hinv0.ple, ?_, ?_, hinv0.step.trans hgr, hinv0.b0, ?_, ?_⟩
    · intro t' k y hy hyt hSk hk
      have hki : k ≠ i := by
        rintro rfl
        rcases hk with hk | hk
        · exact hip hk
        · exact hk hearly
      rw [put_other (odst t' k y hy hyt hki)]
      exact hinv0.done t' k y hy hyt (((hS' k).1 hSk).resolve_left hki) hk
    · intro t' hall
      have hne : o.dst ≠ some t' := by
        intro hod'
        have := hall i x hx (hdd ▸ hod')
        rw [(hS' i).2 (.inl rfl)] at this; cases this
      rw [put_other hne]
      refine hinv0.todo t' fun k y hy hyt => ?_
      have := hall k y hy hyt
      cases hSk : S k
      · rfl
      · rw [(hS' k).2 (.inr hSk)] at this; cases this
    · intro k o' hk hSk e he hb
      exact hcl' k o' (by rw [Array.getElem?_toList]; exact hk) (by simpa using hSk) e he hb
    · intro k y hk hy hyh; exact (hS' k).2 (.inr (hinv0.low k y hk hy hyh))
    · intro k y hk hy hyh hSk
      rcases (hS' k).1 hSk with rfl | h1
      · exact hearly
      · exact hinv0.upp k y hk hy hyh h1
    · intro k y hk hy hke hSk
      by_cases hki : k = i
      · subst hki
        rw [hx] at hy; cases hy
        refine ⟨t, op, cs, us, ty, hxe, hea, hfil, hcl, hus, by rw [if_pos rfl]; exact hnew, by rw [if_pos rfl]; exact hinv0.step.size, ?_, ?_⟩
        · rw [if_pos rfl]
          rintro (⟨c, kk, q, hq, hqb⟩ | ⟨c, hc⟩)
          · have := hinv0.step.rel.ltr c kk q hq; omega
          · have := hinv0.step.rel.lto c _ hc; omega
        · rw [if_pos rfl]
          have hlt2 := hdlt t hod
          simp only [hod, Act.put]
          rw [getD_set, if_pos ⟨rfl, Nat.lt_of_lt_of_le hlt2 hinv0.size⟩]
      · have hSk' := ((hS' k).1 hSk).resolve_left hki
        obtain ⟨t2, op2, cs2, us2, ty2, hye, k0, k1, k2, k3, k4, k5, k6, k7⟩ := hinv0.early k y hk hy hke hSk'
        have hb := hblt k y hk hy hke hSk'
        refine ⟨t2, op2, cs2, us2, ty2, hye, k0, k1, k2, k3, ?_, ?_, ?_, ?_⟩
        · rw [if_neg hki, hold _ hb]; exact k4
        · rw [if_neg hki]; exact k5
        · rw [if_neg hki]; exact k6
        · rw [if_neg hki, put_other (odst t2 k y hy (by rw [hye]) hki)]; exact k7
    · intro k k' g1 g2 g3 g4 g5 g6 g7 g8 g9
      have get : ∀ k, k < is.length → ∃ y, is[k]? = some y := fun k hk => ⟨is[k], by simp⟩
      obtain ⟨y, hy⟩ := get k g7
      obtain ⟨y', hy'⟩ := get k' g8
      by_cases hki : k = i <;> by_cases hki' : k' = i
      · rw [hki, hki']
      · simp only [hki, if_true, if_neg hki'] at g9
        have := hblt k' y' g2 hy' g4 (((hS' k').1 g6).resolve_left hki')
        omega
      · simp only [hki', if_true, if_neg hki] at g9
        have := hblt k y g1 hy g3 (((hS' k).1 g5).resolve_left hki)
        omega
      · simp only [if_neg hki, if_neg hki'] at g9
        exact hinv0.einj k k' g1 g2 g3 g4 (((hS' k).1 g5).resolve_left hki) (((hS' k').1 g6).resolve_left hki') g7 g8 g9
  -- in its turn
  obtain ⟨p, m, hinv, hpi⟩ : ∃ p m, Inv F base nt m0 w0 ds is st ops ps S p eb m a w ∧ ((x.op.heapy = true ∧ p = i) ∨ x.op.heapy = false) := by
    cases hh : x.op.heapy
    · exact ⟨p0, m00, hinv0, .inr rfl⟩
    · have hip : ¬ i < p0 := fun h => by
        have := hinv0.low i x h hx hh
        rw [hSi] at this; cases this
      obtain ⟨m1, h1⟩ := advanceTo hst hf i (by omega) (i - p0) p0 m00 (by omega) hinv0 (by
        intro k y hk hk2 hy hyh
        have hcl : clashK y.op.kind x.op.kind = true := by
          unfold AOp.heapy at hyh hh
          cases h1 : y.op.kind <;> rw [h1] at hyh <;> simp [clashK] at hyh <;> cases h2 : x.op.kind <;> rw [h2] at hh <;> simp [clashK] at hh ⊢
        rcases hf.hp k i y x hk2 hy hx hcl with h1 | ⟨h1, _⟩ | ⟨h1, _⟩ | h1
        · exact fact1 k hk2 h1
        · rw [AOp.heapy, h1] at hyh; simp [clashK] at hyh
        · rw [AOp.heapy, h1] at hh; simp [clashK] at hh
        · exact absurd h1 hearly)
      exact ⟨i, m1, h1, .inl ⟨rfl, rfl⟩⟩
  have hkm : x.op.kind = .m → p = i := fun h => by
    rcases hpi with ⟨_, h1⟩ | h1
    · exact h1
    · rw [AOp.heapy, h] at h1; simp [clashK] at h1
  have hrel := reads p m hinv hkm
  have hstep := hinv.step
  have hp := hinv.ple
  have hV : x.op.kind = .q ∨ (x.op.heapy = true ∧ (st p).2 = (st i).2) ∨ (x.op.kind = .l ∧ ∀ ρ, ρ = env (st i).1 → (evOp noCall ρ (st p).2 x.op).map (·.1) = (evOp noCall ρ (st i).2 x.op).map (·.1)) := by
    rcases hpi with ⟨hh, rfl⟩ | hh
    · exact .inr (.inl ⟨hh, rfl⟩)
    by_cases hq : x.op.kind = .q
    · exact .inl hq
    have hl : x.op.kind = .l := by
      unfold AOp.heapy at hh
      cases h2 : x.op.kind <;> rw [h2] at hh <;> simp [clashK] at hh <;> first | rfl | exact absurd h2 hq
    refine .inr (.inr ⟨hl, ?_⟩)
    rintro ρ rfl
    have hclash : ∀ {y : I}, y.op.heapy = true → clashK y.op.kind x.op.kind = true ∧ clashK x.op.kind y.op.kind = true := by
      intro y hyh
      unfold AOp.heapy at hyh
      rw [hl]
      refine ⟨hyh, ?_⟩
      cases h1 : y.op.kind <;> rw [h1] at hyh <;> simp [clashK] at hyh ⊢
    have stab : ∀ (k : Nat) (y : I), (i, k) ∈ ps → is[k]? = some y → y.op.heapy = true → (evOp noCall (env (st i).1) (st k).2 x.op).map (·.1) = (evOp noCall (env (st i).1) (st (k + 1)).2 x.op).map (·.1) := by
      intro k y hik hy hyh
      have hlk := (List.getElem?_eq_some_iff.1 hy).1
      refine hstb _ hik ?_ x hx hlk
      simp only
      rintro rfl
      rw [hx] at hy; cases hy
      rw [hh] at hyh; cases hyh
    by_cases hpi' : p ≤ i
    · have := read_same hst (op := x.op) (ρ := env (st i).1) (i - p) p (by omega) (fun k y hk hk2 hy => by
        cases hyh : y.op.heapy
        · exact .inl rfl
        · refine .inr ?_
          rcases hf.hp k i y x (by omega) hy hx (hclash hyh).1 with g1 | ⟨g1, _⟩ | ⟨_, _, g1⟩ | g1
          · have := hinv.upp k y hk hy hyh (fact1 k (by omega) g1)
            exact stab k y (hf.el k y i x this hy hx hl) hy hyh
          · rw [AOp.heapy, g1] at hyh; simp [clashK] at hyh
          · exact stab k y g1 hy hyh
          · exact absurd g1 hearly)
      rw [show p + (i - p) = i by omega] at this
      exact this.symm
    · have := read_same hst (op := x.op) (ρ := env (st i).1) (p - i) i (by omega) (fun k y hk hk2 hy => by
        cases hyh : y.op.heapy
        · exact .inl rfl
        · refine .inr ?_
          by_cases hki : k = i
          · subst hki; rw [hx] at hy; cases hy; rw [hh] at hyh; cases hyh
          · rcases hf.hp i k x y (by omega) hx hy (hclash hyh).2 with g1 | ⟨_, _, g1⟩ | ⟨g1, _⟩ | g1
            · have h1 := hinv.low k y (by omega) hy hyh
              rw [fact2 k (by omega) g1] at h1; cases h1
            · exact stab k y g1 hy hyh
            · rw [AOp.heapy, g1] at hyh; simp [clashK] at hyh
            · exact stab k y (hf.el k y i x g1 hy hx hl) hy hyh)
      rw [show i + (p - i) = p by omega] at this
      exact this
  have after : ∀ (v : AV) (v' : Value) (m' : Emb) (w' : World) (V' : AH), RelV F m' v v' → (st (i + 1)).1 = put (st i).1 x.dst v → StepR F base m (st p).2 w m' V' w' → (x.op.heapy = true → V' = (st (i + 1)).2) → (x.op.heapy = false → V' = (st p).2) → ∃ p', Inv F base nt m0 w0 ds is st ops ps S' p' eb m' (a.put o.dst v') w' := by
    intro v v' m' w' V' hv hput hst' h1 h2
    have hkeep : ∀ (k : Nat) (y : I), p ≤ k → is[k]? = some y → (k, k) ∈ ps → S' k = true → EarlyAt F m' w0 w' (st k).1 y (eb k) (a.put o.dst v') := by
      intro k y hk hy hke hSk
      have hki : k ≠ i := fun e => hearly (e ▸ hke)
      obtain ⟨t2, op2, cs2, us2, ty2, hye, k0, k1, k2, k3, k4, k5, k6, k7⟩ := hinv.early k y hk hy hke (((hS' k).1 hSk).resolve_left hki)
      have hb := (Array.getElem?_eq_some_iff.1 k4).1
      obtain ⟨q1, q2⟩ := has_not hst' hb k6
      refine ⟨t2, op2, cs2, us2, ty2, hye, k0, k1, k2, RelL.mono hst'.le _ _ k3, by rw [q1]; exact k4, k5, q2, ?_⟩
      rw [put_other (odst t2 k y hy (by rw [hye]) hki)]; exact k7
    have hei : ∀ p', p ≤ p' → ∀ (k k' : Nat), p' ≤ k → p' ≤ k' → (k, k) ∈ ps → (k', k') ∈ ps → S' k = true → S' k' = true → k < is.length → k' < is.length → eb k = eb k' → k = k' := by
      intro p' hpp k k' g1 g2 g3 g4 g5 g6
      exact hinv.einj k k' (by omega) (by omega) g3 g4 (((hS' k).1 g5).resolve_left (fun e => hearly (e ▸ g3))) (((hS' k').1 g6).resolve_left (fun e => hearly (e ▸ g4)))
    have hdone : ∀ p', (∀ k, k ≠ i → k < p' → k < p) → ∀ (t k : Nat) (y : I), is[k]? = some y → y.dst = some t → S' k = true → (k < p' ∨ (k, k) ∉ ps) → RelV F m' ((st is.length).1.get t) ((a.put o.dst v').tmps.getD t undef) := by
      intro p' hpp t k y hy hyt hSk hk
      by_cases hki : k = i
      · subst hki
        rw [hx] at hy; cases hy
        have := env_same hst (is.length - (k + 1)) (k + 1) (by omega) (t := t) (fun q z g1 g2 hz hzt => by have := uniqI t hyt q z hz hzt; omega)
        rw [show k + 1 + (is.length - (k + 1)) = is.length by omega] at this
        rw [this, hput, hyt]
        have hod : o.dst = some t := hdd.trans hyt
        have hlt2 := hdlt t hod
        simp only [put, Env.get_set, if_true, hod, Act.put]
        rw [getD_set]
        rw [if_pos ⟨rfl, Nat.lt_of_lt_of_le hlt2 hinv.size⟩]
        exact hv
      · rw [put_other (odst t k y hy hyt hki)]
        exact RelV.mono hst'.le _ _ (hinv.done t k y hy hyt (((hS' k).1 hSk).resolve_left hki) (hk.imp (hpp k hki) id))
    have htodo : ∀ t, (∀ (k : Nat) (y : I), is[k]? = some y → y.dst = some t → S' k = false) → RelV F m' ((st 0).1.get t) ((a.put o.dst v').tmps.getD t undef) := by
      intro t hall
      have hne : o.dst ≠ some t := by
        intro hod
        have := hall i x hx (hdd ▸ hod)
        rw [(hS' i).2 (.inl rfl)] at this; cases this
      rw [put_other hne]
      refine RelV.mono hst'.le _ _ (hinv.todo t fun k y hy hyt => ?_)
      have := hall k y hy hyt
      cases hSk : S k
      · rfl
      · rw [(hS' k).2 (.inr hSk)] at this; cases this
    have hclo : ∀ (k : Nat) (o' : Oper), ops[k]? = some o' → S' k = true → ∀ e ∈ o'.after.toList, Region.binds .any e = true → S' e.on = true := fun k o' hk hSk e he hb => hcl' k o' (by rw [Array.getElem?_toList]; exact hk) (by simpa using hSk) e he hb
    rcases hpi with ⟨hh, rfl⟩ | hh
    · rw [h1 hh] at hst'
      refine ⟨p + 1, by rw [Act.put_defs]; exact hinv.defs, by rw [Act.put_size]; exact hinv.size, hdone (p + 1) (fun k h1 h2 => by omega), htodo, hclo, by omega, ?_, ?_, hstep.trans hst', hinv.b0, fun k y hk => hkeep k y (by omega), hei (p + 1) (by omega)⟩
      · intro k y hk hy hyh
        by_cases hki : k = p
        · exact (hS' k).2 (.inl hki)
        · exact (hS' k).2 (.inr (hinv.low k y (by omega) hy hyh))
      · intro k y hk hy hyh hSk
        exact hinv.upp k y (by omega) hy hyh (((hS' k).1 hSk).resolve_left (by omega))
    · rw [h2 hh] at hst'
      refine ⟨p, by rw [Act.put_defs]; exact hinv.defs, by rw [Act.put_size]; exact hinv.size, hdone p (fun k _ h2 => h2), htodo, hclo, hp, ?_, ?_, hstep.trans hst', hinv.b0, fun k y hk => hkeep k y hk, hei p (Nat.le_refl _)⟩
      · intro k y hk hy hyh; exact (hS' k).2 (.inr (hinv.low k y hk hy hyh))
      · intro k y hk hy hyh hSk
        rcases (hS' k).1 hSk with rfl | h1
        · rw [hx] at hy; cases hy; rw [hh] at hyh; cases hyh
        · exact hinv.upp k y hk hy hyh h1
  have hevi := hst i x hx
  have run : (evOp cf (env (st i).1) (st i).2 x.op).map (fun (v, h') => (put (st i).1 x.dst v, h')) = some (st (i + 1)) → Region.wanted o (yielded ops a.tmps) = true → wpOp P ops Q i K a w := by
    intro hev hw
    simp only [Option.map_eq_some_iff] at hev
    obtain ⟨⟨v, h2⟩, hv, hst2⟩ := hev
    have hput : (st (i + 1)).1 = put (st i).1 x.dst v := by rw [← hst2]
    have hh2 : (st (i + 1)).2 = h2 := by rw [← hst2]
    have hev' : ∃ V', evOp cf (env (Env.only x.reads (st i).1)) (st p).2 x.op = some (v, V') ∧ (x.op.heapy = true → V' = (st (i + 1)).2) ∧ (x.op.heapy = false → V' = (st p).2) := by
      rw [evOp_congr (env_only (x := x))] at hv
      rcases hV with hq | ⟨hhx, hV⟩ | ⟨hl, hV⟩
      · refine ⟨(st p).2, evOp_q hq hv _, ?_, fun _ => rfl⟩
        intro hh; simp [AOp.heapy, hq, clashK] at hh
      · rw [hV]
        refine ⟨h2, hv, fun _ => hh2.symm, ?_⟩
        intro hh; rw [hhx] at hh; cases hh
      · have hcall : x.op.isCall = false := by
          cases hxo : x.op <;> rw [hxo] at hl <;> simp [AOp.kind] at hl <;> rfl
        have h3 := hV (env (st i).1) rfl
        rw [evOp_congr (env_only (x := x)), evOp_congr (ρ := env (st i).1) (env_only (x := x)), evOp_any hcall noCall cf, evOp_any hcall noCall cf, hv] at h3
        simp only [Option.map_some, Option.map_eq_some_iff] at h3
        obtain ⟨⟨u, V'⟩, hu, rfl⟩ := h3
        have := evOp_l_same hl hu
        subst this
        refine ⟨_, hu, ?_, fun _ => rfl⟩
        intro hh; rw [AOp.heapy, hl] at hh; simp [clashK] at hh
    obtain ⟨V', hev2, k1, k2⟩ := hev'
    unfold wpOp
    simp only [ho, hw, if_true]
    refine .inl (Oper.wp_mono ?_ (op_sound hs hstep.rel hrel hop hev2 Q))
    rintro a2 w2 ⟨v2, m2, rfl, hv2, hst3⟩
    obtain ⟨p', hp'⟩ := after v v2 m2 w2 V' hv2 hput hst3 k1 k2
    exact hK _ w2 m2 p' eb hp'
  unfold evI at hevi
  split at hevi
  · rename_i hgn
    exact run hevi (i_free hg hgn)
  · rename_i t want hgs
    split at hevi
    · rename_i b hb
      have hb' : (Env.only x.reads (st i).1).get t = .bool b := by
        rw [only_get, if_pos (by simp [I.reads, hgs])]; exact hb
      have hw := i_wanted hg hrel hgs hb'
      split at hevi
      · rename_i hbw
        exact run hevi (by rw [hw]; simpa using hbw)
      · rename_i hbw
        simp only [Option.some.injEq] at hevi
        have hw' : Region.wanted o (yielded ops a.tmps) = false := by rw [hw]; simpa using hbw
        unfold wpOp
        simp only [ho, hw', Bool.false_eq_true, if_false]
        have hheap : (st (i + 1)).2 = (st i).2 := by rw [← hevi]
        have hgh : x.op.heapy = true → (st p).2 = (st (i + 1)).2 := by
          intro hh
          rcases hV with hq | ⟨_, hV⟩ | ⟨hl, _⟩
          · simp [AOp.heapy, hq, clashK] at hh
          · rw [hV, hheap]
          · rw [AOp.heapy, hl] at hh; simp [clashK] at hh
        obtain ⟨p', hp'⟩ := after (.tup []) undef m w (st p).2 rel_skp (by rw [← hevi]) (StepR.refl hstep.rel) hgh (fun _ => rfl)
        exact hK _ w m p' eb hp'
    · rename_i hb
      have hb' : (Env.only x.reads (st i).1).get t = .tup [] := by
        rw [only_get, if_pos (by simp [I.reads, hgs])]; exact hb
      simp only [Option.some.injEq] at hevi
      have hw' : Region.wanted o (yielded ops a.tmps) = false := i_skp hg hrel hgs hb'
      unfold wpOp
      simp only [ho, hw', Bool.false_eq_true, if_false]
      have hheap : (st (i + 1)).2 = (st i).2 := by rw [← hevi]
      have hgh : x.op.heapy = true → (st p).2 = (st (i + 1)).2 := by
        intro hh
        rcases hV with hq | ⟨_, hV⟩ | ⟨hl, _⟩
        · simp [AOp.heapy, hq, clashK] at hh
        · rw [hV, hheap]
        · rw [AOp.heapy, hl] at hh; simp [clashK] at hh
      obtain ⟨p', hp'⟩ := after (.tup []) undef m w (st p).2 rel_skp (by rw [← hevi]) (StepR.refl hstep.rel) hgh (fun _ => rfl)
      exact hK _ w m p' eb hp'
    · cases hevi

theorem drw_sound (hs : Sound P F cf) (hm : P.follows .mixedOrders = true) {ps : List (Nat × Nat)} {id : Nat} {a : Act} (hc : chkIs P F nt ops ops.toList is = true) (hd : drwOk ops is ps = true) (hev : evDraw cf is ps e h = some (e', h'))
    (hr : RelH F base m h w) (he : RelEnv F m e a.tmps) (hn : nt ≤ a.tmps.size)
    (hQ : ∀ a' w' m', a'.defers = a.defers → nt ≤ a'.tmps.size → RelEnv F m' e' a'.tmps → StepR F base m h w m' h' w' → Q .normal a' w') : (Code.region id ops true).wp P Q a w := by
  have hev : evR cf is e h = some (e', h') ∧ ∀ q ∈ ps, q.1 = q.2 ∨ Stable cf is e h q.1 q.2 := by
    unfold evDraw at hev
    split at hev
    · rename_i hh; exact ⟨hev, hh⟩
    · cases hev
  obtain ⟨hev, hstable⟩ := hev
  obtain ⟨hf, hed⟩ := fit_of hd
  obtain ⟨hlen, hchk⟩ := chk_get hc
  obtain ⟨st, s0, sn, hst⟩ := states is e h e' h' hev
  have hstate : ∀ i, i ≤ is.length → stateAt cf is i e h = some (st i) := by
    intro i
    induction i with
    | zero => intro _; simp [stateAt, evR, s0]
    | succ i ih =>
      intro hi
      have h1 := ih (by omega)
      obtain ⟨x, hx⟩ : ∃ x, is[i]? = some x := ⟨is[i]'(by omega), by simp⟩
      have app : ∀ (l : List I) (e : Env) (h : AH) (s : Env × AH), evR cf l e h = some s → evR cf (l ++ [x]) e h = evI cf x s.1 s.2 := by
        intro l
        induction l with
        | nil =>
          intro e h s hs
          simp only [evR, Option.some.injEq] at hs
          subst hs
          simp only [List.nil_append, evR]
          cases evI cf x e h with
          | none => rfl
          | some y => rfl
        | cons y l ih =>
          intro e h s hs
          simp only [List.cons_append, evR] at hs ⊢
          split at hs
          · rename_i e1 h1 h2; exact ih _ _ _ hs
          · cases hs
      unfold stateAt at h1 ⊢
      rw [List.take_add_one, hx]
      simp only [Option.toList_some]
      rw [app _ _ _ _ h1, hst i x hx]
  have hstb : ∀ q ∈ ps, q.1 ≠ q.2 → ∀ o : I, is[q.1]? = some o → q.2 < is.length → (evOp noCall (env (st q.1).1) (st q.2).2 o.op).map (·.1) = (evOp noCall (env (st q.1).1) (st (q.2 + 1)).2 o.op).map (·.1) := by
    intro q hq hne o ho hlt
    have hlt1 := (List.getElem?_eq_some_iff.1 ho).1
    exact (hstable q hq).resolve_left hne o _ _ _ _ _ _ ho (hstate q.1 (by omega)) (hstate q.2 (by omega)) (hstate (q.2 + 1) (by omega))
  refine wp_region_any hm ?_
  have hdraw : StepR F base m h w m h { w with drawn := w.drawn + 1 } := StepR.draw hr rfl rfl rfl rfl
  have main : ∀ (fuel : Nat) (listed : Array Bool) (a1 : Act) (m1 : Emb) (w1 : World) (p1 : Nat) (eb1 : Nat → Nat), listed.size = ops.size → cnt (fun k => listed.getD k false) ops.size ≤ fuel → Inv F base nt m w a.defers is st ops ps (fun k => listed.getD k false) p1 eb1 m1 a1 w1 → wpAny P .any ops Q fuel listed a1 w1 := by
    have fin : ∀ (listed : Array Bool) (a1 : Act) (m1 : Emb) (w1 : World) (p1 : Nat) (eb1 : Nat → Nat), Inv F base nt m w a.defers is st ops ps (fun k => listed.getD k false) p1 eb1 m1 a1 w1 → (∀ k, k < is.length → listed.getD k false = true) → Q .normal a1 w1 := by
      intro listed a1 m1 w1 p1 eb1 hinv hall
      obtain ⟨m', g1, g2⟩ := inv_end hst hf hinv hall
      rw [sn] at g1 g2
      rw [s0] at g2
      exact hQ a1 w1 m' hinv.defs hinv.size g1 g2
    have allOf : ∀ listed : Array Bool, listed.size = ops.size → Region.ready .any ops listed = [] → ∀ k, k < ops.size → listed.getD k false = true := by
      intro listed hsz hrd k
      induction k using Nat.strongRecOn with
      | ind k ih =>
        intro hk
        cases hl : listed.getD k false with
        | true => rfl
        | false =>
          have : k ∈ Region.ready .any ops listed := by
            rw [mem_ready]
            refine ⟨?_, ops[k], by simp, ?_⟩
            · rw [Array.getD_eq_getD_getElem?] at hl ⊢
              rw [Array.getElem?_eq_getElem (by omega)] at hl ⊢
              simpa using hl
            · intro ed hed' hb
              have := edges_get ops.toList 0 k ops[k] hed (by simp) ed (by simpa using hed') hb
              exact ih ed.on (by omega) (by omega)
          rw [hrd] at this
          cases this
    intro fuel
    induction fuel with
    | zero =>
      intro listed a1 m1 w1 p1 eb1 hsz hcnt hinv
      have hall := cnt_zero (S := fun k => listed.getD k false) ops.size (by omega)
      refine ⟨?_, fin listed a1 m1 w1 p1 eb1 hinv (fun k hk => hall k (by simp at hlen; omega))⟩
      cases hrd : Region.ready .any ops listed with
      | nil => rfl
      | cons k l =>
        have hk : k ∈ Region.ready .any ops listed := by rw [hrd]; simp
        rw [mem_ready] at hk
        obtain ⟨h1, o, ho, _⟩ := hk
        have hlt := (Array.getElem?_eq_some_iff.1 ho).1
        have h2 := hall k hlt
        rw [Array.getD_eq_getD_getElem?, Array.getElem?_eq_getElem (by omega)] at h1 h2
        simp at h1 h2
        rw [h1] at h2; cases h2
    | succ fuel ih =>
      intro listed a1 m1 w1 p1 eb1 hsz hcnt hinv
      refine ⟨fun hrd => fin listed a1 m1 w1 p1 eb1 hinv (fun k hk => allOf listed hsz hrd k (by simp at hlen; omega)), ?_⟩
      intro i hi
      rw [mem_ready] at hi
      obtain ⟨h1, o, ho, hedge⟩ := hi
      have hlt := (Array.getElem?_eq_some_iff.1 ho).1
      have hlt2 : i < is.length := by simp at hlen; omega
      have hSi : listed.getD i false = false := by
        rw [Array.getD_eq_getD_getElem?, Array.getElem?_eq_getElem (by omega)] at h1 ⊢
        simpa using h1
      have hS' : ∀ k, (listed.setIfInBounds i true).getD k false = true ↔ k = i ∨ listed.getD k false = true := by
        intro k
        simp only [Array.getD_eq_getD_getElem?, Array.getElem?_setIfInBounds]
        by_cases hik : i = k
        · subst hik
          simp [show i < listed.size by omega]
        · rw [if_neg hik]
          constructor
          · intro hh; exact .inr hh
          · rintro (hh | hh)
            · exact absurd hh.symm hik
            · exact hh
      refine inv_step hs hst hf hstb hinv (S' := fun k => (listed.setIfInBounds i true).getD k false) ho (x := is[i]) (by simp) (hchk i o is[i] (by rw [Array.getElem?_toList]; exact ho) (by simp)) hSi hS' (fun ed hed' hb => hedge ed (by simpa using hed') hb) ?_
      intro a' w' m' p' eb' hinv'
      refine ih _ a' m' w' p' eb' (by simp [hsz]) ?_ hinv'
      have := cnt_lt (S := fun k => listed.getD k false) (S' := fun k => (listed.setIfInBounds i true).getD k false) (fun k hk => (hS' k).2 (.inr hk)) hSi ((hS' i).2 (.inl rfl)) ops.size hlt
      omega
  refine main ops.size _ a m _ 0 (fun _ => 0) (by simp) ?_ ?_
  · have : ∀ (S : Nat → Bool) n, cnt S n ≤ n := by
      intro S n
      induction n with
      | zero => exact Nat.le_refl _
      | succ n ih => simp only [cnt]; split <;> omega
    exact this _ _
  · have hno : ∀ k, (Array.replicate ops.size false).getD k false = false := by
      intro k
      rw [Array.getD_eq_getD_getElem?, Array.getElem?_replicate]
      split <;> rfl
    refine ⟨rfl, hn, ?_, ?_, ?_, Nat.zero_le _, fun k x hk => by omega, ?_, by rw [s0]; exact hdraw, hr.le, ?_, ?_⟩
    · intro t k x hx hxt hS; rw [hno] at hS; cases hS
    · intro t _; rw [s0]; exact he t
    · intro k o ho hS; rw [hno] at hS; cases hS
    · intro k x _ _ _ hS; rw [hno] at hS; cases hS
    · intro k x _ _ _ hS; rw [hno] at hS; cases hS
    · intro k k' _ _ _ _ hS; rw [hno] at hS; cases hS
end
end Go.Proofs.YtnamhjdfegohbaaGreatDoor.Ab

/- CODE AND CALLS: what the evaluator says, the program does. -/
namespace Go.Proofs.YtnamhjdfegohbaaGreatDoor.Ab
open Go Go.RowKit

section
variable (P : Program) (F : Nat → Nat)

def chkC (nt : Nat) : C → Code → Bool
  | .kl _ c, d => chkC nt c d
  | .skip, .skip => true
  | .reg is, .region _ ops false => chkIs P F nt ops ops.toList is
  | .drw is ps, .region _ ops true => P.follows .mixedOrders && chkIs P F nt ops ops.toList is && drwOk ops is ps
  | .seq a b, .seq x y => chkC nt a x && chkC nt b y
  | .cond c a b, .cond y x z => chkO F y c && chkC nt a x && chkC nt b z
  | .blk i c, .block j d => decide (i = j) && chkC nt c d
  | .loop c, .loop d => chkC nt c d
  | .exit i, .exit j => decide (i = j)
  | .ret, .ret => true
  | .bad, _ => true
  | _, _ => false

def chkRes : List ResultVar → List Res → Bool
  | [], [] => true
  | .tmp t :: rs, .tmp t' :: qs => decide (t = t') && chkRes rs qs
  | .cell a t :: rs, .cell agg n a' :: qs => decide (a = a') && shp P t agg n && chkRes rs qs
  | _, _ => false

def chkF (f : Nat) (fi : FI) : Bool := match P.funcs[F f]? with
  | some fn => match fn.body with
    | some c => !(fn.name == "runtime.NumGoroutine") && chkC P F fn.ntmps fi.body c && chkRes P fn.results.toList fi.res
    | none => false
  | none => false
end

def X.exit' : X → Exit
  | .normal => .normal
  | .exit i => .exit i
  | .ret => .ret

section
variable {P : Program} {F : Nat → Nat} {base : Nat} {cf : CF} {nt : Nat}

/-- What a piece of code leaves behind. -/
def Post (P : Program) (F : Nat → Nat) (base nt : Nat) (m : Emb) (h : AH) (w : World) (ds : List Deferred) (x : X) (e' : Env) (h' : AH) : Exit → Act → World → Prop :=
  fun ee a' w' => ee = x.exit' ∧ a'.defers = ds ∧ nt ≤ a'.tmps.size ∧ ∃ m', RelEnv F m' e' a'.tmps ∧ StepR F base m h w m' h' w'

theorem Post.trans {m m1 : Emb} {h h1 h' : AH} {w w1 : World} {ds : List Deferred} {x : X} {e' : Env} {ee : Exit} {a' : Act} {w' : World} (hs : StepR F base m h w m1 h1 w1) (hp : Post P F base nt m1 h1 w1 ds x e' h' ee a' w') : Post P F base nt m h w ds x e' h' ee a' w' := by
  obtain ⟨h1, h2, h3, m', h4, h5⟩ := hp
  exact ⟨h1, h2, h3, m', h4, hs.trans h5⟩

theorem code_sound (hs : Sound P F cf) (n : Nat) : ∀ (c : C) (d : Code) (a : Act) (m : Emb) (e : Env) (h : AH) (w : World) (x : X) (e' : Env) (h' : AH), chkC P F nt c d = true → evC cf n c e h = some (x, e', h') →
    RelH F base m h w → RelEnv F m e a.tmps → nt ≤ a.tmps.size → d.wp P (Post P F base nt m h w a.defers x e' h') a w := by
  intro c
  induction c with
  | skip =>
    intro d a m e h w x e' h' hc hev hr he hn
    cases d <;> simp [chkC] at hc
    simp only [evC, Option.some.injEq, Prod.mk.injEq] at hev
    obtain ⟨rfl, rfl, rfl⟩ := hev
    exact wp_skip ⟨rfl, rfl, hn, m, he, StepR.refl hr⟩
  | reg is =>
    intro d a m e h w x e' h' hc hev hr he hn
    cases d <;> try (simp [chkC] at hc; done)
    rename_i id ops draw
    cases draw <;> try (simp [chkC] at hc; done)
    simp only [chkC] at hc
    simp only [evC, Option.map_eq_some_iff, Prod.mk.injEq] at hev
    obtain ⟨⟨e1, h1⟩, hev, rfl, rfl, rfl⟩ := hev
    exact reg_sound hs hc hev hr he hn fun a' w' m' k1 k2 k3 k4 => ⟨rfl, k1, k2, m', k3, k4⟩
  | drw is ps =>
    intro d a m e h w x e' h' hc hev hr he hn
    cases d <;> try (simp [chkC] at hc; done)
    rename_i id ops draw
    cases draw <;> try (simp [chkC] at hc; done)
    simp only [chkC] at hc
    simp only [Bool.and_eq_true] at hc
    simp only [evC, Option.map_eq_some_iff, Prod.mk.injEq] at hev
    obtain ⟨⟨e1, h1⟩, hev, rfl, rfl, rfl⟩ := hev
    exact drw_sound hs hc.1.1 hc.1.2 hc.2 hev hr he hn fun a' w' m' k1 k2 k3 k4 => ⟨rfl, k1, k2, m', k3, k4⟩
  | kl ts c ih =>
    intro d a m e h w x e' h' hc hev hr he hn
    simp only [chkC] at hc
    simp only [evC] at hev
    exact ih d a m _ h w x e' h' hc hev hr (he.dels ts) hn
  | seq c1 c2 ih1 ih2 =>
    intro d a m e h w x e' h' hc hev hr he hn
    cases d <;> simp only [chkC] at hc <;> try (cases hc; done)
    simp only [Bool.and_eq_true] at hc
    simp only [evC] at hev
    refine wp_seq ?_
    split at hev
    · rename_i e1 h1 hev1
      refine wp_mono (ih1 _ a m e h w _ e1 h1 hc.1 hev1 hr he hn) ?_
      rintro ee a1 w1 ⟨rfl, k1, k2, m1, k3, k4⟩
      have := ih2 _ a1 m1 e1 h1 w1 x e' h' hc.2 hev k4.rel k3 k2
      rw [k1] at this
      exact wp_mono this fun ee a2 w2 hp => Post.trans k4 hp
    · rename_i hne
      refine wp_mono (ih1 _ a m e h w _ e' h' hc.1 hev hr he hn) ?_
      rintro ee a1 w1 ⟨rfl, k1, k2, m1, k3, k4⟩
      cases x with
      | normal => exact absurd hev (hne _ _)
      | exit i => exact ⟨rfl, k1, k2, m1, k3, k4⟩
      | ret => exact ⟨rfl, k1, k2, m1, k3, k4⟩
  | cond y c1 c2 ih1 ih2 =>
    intro d a m e h w x e' h' hc hev hr he hn
    cases d <;> simp only [chkC] at hc <;> try (cases hc; done)
    simp only [Bool.and_eq_true] at hc
    simp only [evC] at hev
    split at hev
    · rename_i t ht
      have hv := chkO_rel he hc.1.1
      rw [ht] at hv
      refine wp_cond (rel_bool hv) ?_
      cases t
      · exact ih2 _ a m e h w x e' h' hc.2 hev hr he hn
      · exact ih1 _ a m e h w x e' h' hc.1.2 hev hr he hn
    · cases hev
  | blk id c ih =>
    intro d a m e h w x e' h' hc hev hr he hn
    cases d <;> simp only [chkC] at hc <;> try (cases hc; done)
    rename_i id2 d2
    simp only [Bool.and_eq_true, decide_eq_true_eq] at hc
    obtain ⟨rfl, hc⟩ := hc
    simp only [evC] at hev
    refine wp_block ?_
    split at hev
    · rename_i id' e1 h1 hev1
      refine wp_mono (ih _ a m e h w _ e1 h1 hc hev1 hr he hn) ?_
      rintro ee a1 w1 ⟨rfl, k1, k2, m1, k3, k4⟩
      simp only [X.exit', Exit.inBlock]
      split at hev
      · rename_i hid
        rw [if_pos hid]
        simp only [Option.some.injEq, Prod.mk.injEq] at hev
        obtain ⟨rfl, rfl, rfl⟩ := hev
        exact ⟨rfl, k1, k2, m1, k3, k4⟩
      · rename_i hid
        rw [if_neg hid]
        simp only [Option.some.injEq, Prod.mk.injEq] at hev
        obtain ⟨rfl, rfl, rfl⟩ := hev
        exact ⟨rfl, k1, k2, m1, k3, k4⟩
    · rename_i hne
      refine wp_mono (ih _ a m e h w _ e' h' hc hev hr he hn) ?_
      rintro ee a1 w1 ⟨rfl, k1, k2, m1, k3, k4⟩
      cases x with
      | normal => exact ⟨rfl, k1, k2, m1, k3, k4⟩
      | exit i => exact absurd hev (hne _ _ _)
      | ret => exact ⟨rfl, k1, k2, m1, k3, k4⟩
  | loop c ih =>
    intro d a m e h w x e' h' hc hev hr he hn
    cases d <;> simp only [chkC] at hc <;> try (cases hc; done)
    rename_i d2
    simp only [evC] at hev
    have key : ∀ (k : Nat) (a : Act) (m : Emb) (e : Env) (h : AH) (w : World), evLoop (evC cf n c) k e h = some (x, e', h') → RelH F base m h w → RelEnv F m e a.tmps → nt ≤ a.tmps.size →
        Code.rounds P d2 (Post P F base nt m h w a.defers x e' h') k a w := by
      intro k
      induction k with
      | zero => intro a m e h w hev; simp [evLoop] at hev
      | succ k ihk =>
        intro a m e h w hev hr he hn
        rw [rounds_succ]
        simp only [evLoop] at hev
        split at hev
        · rename_i e1 h1 hev1
          refine wp_mono (ih _ a m e h w _ e1 h1 hc hev1 hr he hn) ?_
          rintro ee a1 w1 ⟨rfl, k1, k2, m1, k3, k4⟩
          have := ihk a1 m1 e1 h1 w1 hev k4.rel k3 k2
          rw [k1] at this
          simp only [X.exit', Exit.then]
          have mono : ∀ (k : Nat) (Q Q' : Exit → Act → World → Prop), (∀ ee a w, Q ee a w → Q' ee a w) → ∀ a w, Code.rounds P d2 Q k a w → Code.rounds P d2 Q' k a w := by
            intro k Q Q' hq
            induction k with
            | zero => intro a w hh; exact hh
            | succ k ih =>
              intro a w hh
              rw [rounds_succ] at hh ⊢
              refine wp_mono hh ?_
              intro ee a w hx
              cases ee <;> first | exact ih _ _ hx | exact hq _ _ _ hx
          exact mono _ _ _ (fun ee a2 w2 hp => Post.trans k4 hp) _ _ this
        · rename_i hne
          refine wp_mono (ih _ a m e h w _ e' h' hc hev hr he hn) ?_
          rintro ee a1 w1 ⟨rfl, k1, k2, m1, k3, k4⟩
          cases x with
          | normal => exact absurd hev (hne _ _)
          | exit i => exact ⟨rfl, k1, k2, m1, k3, k4⟩
          | ret => exact ⟨rfl, k1, k2, m1, k3, k4⟩
    exact wp_loop_rounds n (key n a m e h w hev hr he hn)
  | exit i =>
    intro d a m e h w x e' h' hc hev hr he hn
    cases d <;> simp [chkC] at hc
    subst hc
    simp only [evC, Option.some.injEq, Prod.mk.injEq] at hev
    obtain ⟨rfl, rfl, rfl⟩ := hev
    exact wp_exit ⟨rfl, rfl, hn, m, he, StepR.refl hr⟩
  | ret =>
    intro d a m e h w x e' h' hc hev hr he hn
    cases d <;> simp [chkC] at hc
    simp only [evC, Option.some.injEq, Prod.mk.injEq] at hev
    obtain ⟨rfl, rfl, rfl⟩ := hev
    exact wp_ret ⟨rfl, rfl, hn, m, he, StepR.refl hr⟩
  | bad =>
    intro d a m e h w x e' h' hc hev hr he hn
    simp [evC] at hev

def oneRes (tmps : Array Value) : ResultVar → Sem Value
  | .tmp t => pure (tmps.getD t undef)
  | .cell a t => do loadVar t (← asAddr (tmps.getD a undef))
theorem results_eq (fn : Func) (tmps : Array Value) : results fn tmps = (do
    let vs ← fn.results.mapM (oneRes tmps)
    pure (if h : vs.size = 1 then vs[0] else .tuple vs)) := rfl

theorem res_run : ∀ (rs : List ResultVar) (qs : List Res) {e : Env} {h : AH} {w : World} {m : Emb} {tmps : Array Value} {vs : List AV}, chkRes P rs qs = true → RelH F base m h w → RelEnv F m e tmps → resL e h qs = some vs →
    ∃ us : List Value, (rs.mapM (oneRes tmps)).run P w = .ok us w ∧ RelL F m vs us
  | [], [], e, h, w, m, tmps, vs, hc, hr, he, hv => by
    simp only [resL, Option.some.injEq] at hv
    subst hv
    exact ⟨[], by simp, by simp [RelL]⟩
  | [], _ :: _, e, h, w, m, tmps, vs, hc, hr, he, hv => by simp [chkRes] at hc
  | .tmp _ :: _, [], e, h, w, m, tmps, vs, hc, hr, he, hv => by simp [chkRes] at hc
  | .cell _ _ :: _, [], e, h, w, m, tmps, vs, hc, hr, he, hv => by simp [chkRes] at hc
  | .tmp _ :: _, .cell .. :: _, e, h, w, m, tmps, vs, hc, hr, he, hv => by simp [chkRes] at hc
  | .cell _ _ :: _, .tmp _ :: _, e, h, w, m, tmps, vs, hc, hr, he, hv => by simp [chkRes] at hc
  | .tmp t :: rs, .tmp t' :: qs, e, h, w, m, tmps, vs, hc, hr, he, hv => by
    simp only [chkRes, Bool.and_eq_true, decide_eq_true_eq] at hc
    obtain ⟨rfl, hc⟩ := hc
    simp only [resL, res1] at hv
    split at hv
    · rename_i v vs' h1 h2
      cases hv
      cases h1
      obtain ⟨us, hu, hrel⟩ := res_run rs qs hc hr he h2
      refine ⟨tmps.getD t undef :: us, ?_, ?_⟩
      · simp only [List.mapM_cons, oneRes, Sem.run_bind, Sem.run_pure, Result.andThen, hu]
      · simp only [RelL]; exact ⟨_, _, rfl, he t, hrel⟩
    · cases hv
  | .cell t ty :: rs, .cell agg n t' :: qs, e, h, w, m, tmps, vs, hc, hr, he, hv => by
    simp only [chkRes, Bool.and_eq_true, decide_eq_true_eq] at hc
    obtain ⟨⟨rfl, hsh⟩, hc⟩ := hc
    simp only [resL] at hv
    split at hv
    · rename_i v vs' h1 h2
      cases hv
      obtain ⟨us, hu, hrel⟩ := res_run rs qs hc hr he h2
      simp only [res1] at h1
      split at h1
      case h_2 => cases h1
      rename_i c k off mm hk
      have hx := he t
      rw [hk] at hx
      obtain ⟨p, hp, hv2, hlo, hext⟩ := rel_ptr hx
      split at h1
      case isFalse => cases h1
      rename_i hle
      split at h1
      case h_2 => cases h1
      rename_i cs hcs
      obtain ⟨ls, hls, hlen, hrun⟩ := hr.loads (P := P) hcs hp hlo (by omega)
      have hsh' := hsh
      simp only [shp, Bool.and_eq_true, Bool.or_eq_true] at hsh'
      obtain ⟨⟨g1, g2⟩, g3⟩ := hsh'
      have hlv : ∃ u, (loadVar ty ⟨p.blk, p.base + (off - p.lo), none⟩).run P w = .ok u w ∧ RelV F m v u := by
        rcases mkv_rel h1 hls with ⟨rfl, hrv⟩ | ⟨rfl, u, rfl, hrv⟩
        · exact ⟨_, by simp [loadVar, run_isAg g1, run_sz g2, hrun], hrv⟩
        · have hn : n = 1 := by simpa using g3
          subst hn
          have hrun' := hrun
          have hcell : w.cell? ⟨p.blk, p.base + (off - p.lo), none⟩ = some u := by
            obtain ⟨us', hus', hlen', hc'⟩ := hr.row_at hcs hp hlo (by omega)
            simp only [loadCells, loadCellsFrom, Sem.run_bind, addr_add, Nat.add_zero, run_load] at hrun'
            cases hcc : w.cell? ⟨p.blk, p.base + (off - p.lo), none⟩ with
            | some q => rw [hcc] at hrun'; simp at hrun'; rw [hrun']
            | none =>
              obtain ⟨q, hq⟩ : ∃ q, us'[0]? = some q := ⟨us'[0], by simp⟩
              have := hc' 0 q hq
              rw [Nat.add_zero, hcc] at this; cases this
          exact ⟨u, by simp [loadVar, run_isAg g1, hcell], hrv⟩
      obtain ⟨u, hlu, hru⟩ := hlv
      refine ⟨u :: us, ?_, ?_⟩
      · simp only [List.mapM_cons, oneRes, Sem.run_bind, hv2, asAddr, Sem.run_pure, Result.andThen, hlu, hu]
      · simp only [RelL]; exact ⟨_, _, rfl, hru, hrel⟩
    · cases hv

theorem results_run {fn : Func} {qs : List Res} {e : Env} {h : AH} {w : World} {m : Emb} {tmps : Array Value} {r : AV} (hc : chkRes P fn.results.toList qs = true) (hr : RelH F base m h w) (he : RelEnv F m e tmps) (hv : resV e h qs = some r) :
    ∃ v, (results fn tmps).run P w = .ok v w ∧ RelV F m r v := by
  unfold resV at hv
  have key : ∀ vs, resL e h qs = some vs → ∃ us : List Value, RelL F m vs us ∧ (results fn tmps).run P w = .ok (if h : us.toArray.size = 1 then us.toArray[0] else .tuple us.toArray) w := by
    intro vs hvs
    obtain ⟨us, h1, h2⟩ := res_run fn.results.toList qs hc hr he hvs
    refine ⟨us, h2, ?_⟩
    rw [results_eq, Array.mapM_eq_mapM_toList]
    simp only [Sem.run_bind, Sem.run_map, h1, Result.andThen, Sem.run_pure]
  split at hv
  · rename_i v hvs
    cases hv
    obtain ⟨us, h1, h2⟩ := key _ hvs
    simp only [RelL] at h1
    obtain ⟨u, l, rfl, hu, rfl⟩ := h1
    exact ⟨u, by rw [h2]; simp, hu⟩
  · rename_i vs hne hvs
    cases hv
    obtain ⟨us, h1, h2⟩ := key _ hvs
    refine ⟨.tuple us.toArray, ?_, by simp only [RelV]; exact ⟨_, rfl, by simpa using h1⟩⟩
    have hl := h1.length
    have hne1 : us.length ≠ 1 := by
      intro h0
      rw [h0] at hl
      match vs, hl with
      | [v], _ => exact hne v rfl
    rw [h2]
    simp [hne1]
  · cases hv

/-- What a contract of a function outside the table owes. -/
def ExtOk (P : Program) (F : Nat → Nat) (E : Ext) : Prop := ∀ f G, E f = some G → ∀ cf, Sound P F cf → ∀ xs h r h', G cf xs h = some (r, h') → fnOk P (F f) = true ∧ ∀ base m w args, RelH F base m h w → RelL F m xs args.toList →
    Calls P (F f) args w fun e w' => ∃ v m', e = .returned v ∧ RelV F m' r v ∧ StepR F base m h w m' h' w'

theorem sound {T : Nat → Option FI} {E : Ext} (hT : ∀ f fi, E f = none → T f = some fi → chkF P F f fi = true) (hE : ExtOk P F E) : ∀ n, Sound P F (evF T E n)
  | 0 => by intro f xs h r h' hev; simp [evF] at hev
  | n + 1 => by
    intro f xs h r h' hev
    simp only [evF] at hev
    split at hev
    · rename_i G hG
      exact hE f G hG _ (sound hT hE n) xs h r h' hev
    · rename_i hG
      split at hev
      case h_2 => cases hev
      rename_i fi hfi
      have hc := hT f fi hG hfi
      unfold chkF at hc
      split at hc
      case h_2 => cases hc
      rename_i fn hfn
      split at hc
      case h_2 => cases hc
      rename_i c hbody
      simp only [Bool.and_eq_true, Bool.not_eq_true'] at hc
      obtain ⟨⟨h1, h2⟩, h3⟩ := hc
      refine ⟨by simp [fnOk, hfn, hbody]; simpa using h1, ?_⟩
      intro base m w args hr hx
      refine calls_of_wp hfn hbody ?_
      have hlen := hx.length
      have he : RelEnv F m (Env.init 0 xs) (args ++ Array.replicate (fn.ntmps - args.size) undef) := by
        intro t
        rw [init_get]
        split
        · rename_i ht
          have hlt : t < xs.length := by omega
          obtain ⟨v, hv, hxv⟩ := hx.get t xs[t] (by simp)
          have h0 : xs.getD (t - 0) .undef = xs[t] := by simp [List.getD_eq_getElem?_getD, hlt]
          rw [h0]
          rw [Array.getElem?_toList] at hv
          have : (args ++ Array.replicate (fn.ntmps - args.size) undef).getD t undef = v := by
            rw [Array.getD_eq_getD_getElem?, Array.getElem?_append_left (by simp at hlen; omega), hv]; rfl
          rw [this]; exact hxv
        · simp only [RelV]
      have hn : fn.ntmps ≤ (args ++ Array.replicate (fn.ntmps - args.size) undef).size := by simp; omega
      have main : ∀ x e' h1', evC (evF T E n) n fi.body (Env.init 0 xs) h = some (x, e', h1') → (x = .normal ∨ x = .ret) → (resV e' h1' fi.res).map (·, h1') = some (r, h') →
          c.wp P (bodyPost P fn fun ee w' => ∃ v m', ee = .returned v ∧ RelV F m' r v ∧ StepR F base m h w m' h' w') { tmps := args ++ Array.replicate (fn.ntmps - args.size) undef, defers := [] } w := by
        intro x e' h1' hev hx' hres
        refine wp_mono (code_sound (sound hT hE n) n fi.body c _ m _ h w x e' h1' h2 hev hr he hn) ?_
        rintro ee a' w' ⟨rfl, k1, k2, m', k3, k4⟩
        simp only [Option.map_eq_some_iff, Prod.mk.injEq] at hres
        obtain ⟨r', hres, rfl, rfl⟩ := hres
        obtain ⟨v, hv, hrv⟩ := results_run h3 k4.rel k3 hres
        rcases hx' with rfl | rfl
        · exact ⟨k1, v, hv, v, m', rfl, hrv, k4⟩
        · exact ⟨k1, v, hv, v, m', rfl, hrv, k4⟩
      split at hev
      · rename_i e' h1' hc'
        exact main _ e' h1' hc' (.inl rfl) hev
      · rename_i e' h1' hc'
        exact main _ e' h1' hc' (.inr rfl) hev
      · cases hev

end
end Go.Proofs.YtnamhjdfegohbaaGreatDoor.Ab

/- THE SEAT's numbers of functions, and that the bodies are the program's. -/
namespace Go.Proofs.YtnamhjdfegohbaaGreatDoor.Ab
open Go

def F : Nat → Nat := fun n => [0, 0, 0, 0, 0, 0, 0, 0, 0, 0, 0, 0, 0, 0, 0, 0, 0, 0, 0, 15, 0, 0, 48, 0, 0, 0, 0, 46, 0, 0, 0, 0, 0, 0, 0, 76, 0, 0, 0, 0, 0, 0, 0, 0, 0, 0, 0, 0, 0, 0, 0, 0, 0, 0, 0, 0, 0, 0, 0, 98, 247, 185, 135, 137, 133, 0, 189, 0, 245, 0, 0, 196, 0, 0, 87, 0, 0, 91, 0, 0, 110, 152, 86, 0, 0, 0, 0, 0, 0, 0, 0, 132, 123, 0, 0, 0, 0, 0, 0, 136, 197, 134, 0, 203, 121, 164, 95, 200, 199, 173, 172, 161, 0, 124, 193, 0, 198, 0, 0, 187, 0, 0, 0, 117, 190, 256, 226, 225, 191, 0, 239, 223, 192, 270, 0, 0, 0, 0, 106, 0, 0, 0, 20, 0, 0, 0, 0, 0, 0, 0, 0, 0, 0, 0, 0, 0, 0, 0, 0, 0, 103, 171, 0, 12, 0, 104, 16, 94, 0, 0, 0, 109, 107, 229, 0, 0, 100, 99, 166, 168, 167, 108, 169, 28, 211, 14, 97, 89, 165, 162, 163, 96, 115, 116, 111, 227, 228, 120, 118, 119, 182, 184, 183, 186, 188, 238, 214, 0, 0, 0, 0, 21, 0, 19, 18, 0, 105, 102, 101, 0, 170, 0, 38, 34, 0, 0, 0, 0, 0, 0, 122, 113, 30, 0, 0, 0, 0, 0, 0, 0, 0, 33, 0, 0, 0, 0, 0, 0, 0, 114, 0, 0, 0, 0, 128, 175, 0, 0, 0, 0, 0, 0, 0, 0, 0, 0, 0, 0, 0, 0, 0, 0, 0, 0, 0, 0, 242, 0, 0, 0, 0, 0, 0, 0, 0, 0, 0, 0, 275, 276, 0, 0, 0, 0, 0, 0, 0, 0, 0, 0, 0, 0, 0, 0, 0, 0, 208, 243, 0, 0, 0, 0, 0, 0, 0, 0, 0, 0, 0, 69, 68, 0, 61, 60, 0, 0, 80, 79, 145, 146, 73, 143, 144, 157, 158, 150, 156, 209, 153, 155, 154, 202, 204, 205, 206, 213, 212, 149, 147, 241, 207, 246, 260, 261, 262, 263, 264, 265, 266, 267, 274, 277, 278, 280, 0, 0, 0, 0, 0, 0, 0, 0, 0, 0, 0, 0, 0, 0, 0, 0, 0, 13, 0, 0, 0, 32, 0, 0, 0, 0, 0, 0, 0, 0, 0, 0, 0, 0, 0, 0, 0, 0, 0, 0, 0, 0, 0, 0, 0, 0, 0, 0, 0, 0, 0, 44, 0, 0, 0, 0, 0, 0, 0, 0, 0, 0, 0, 0, 0, 72, 45, 0, 0, 0, 0, 0, 297, 0, 0, 0, 0, 0, 126, 0, 0, 0, 35, 130, 0, 0, 0, 0, 0, 0, 140, 195, 0, 0, 0, 1, 253, 254, 255, 216, 217, 218, 219, 220, 221, 222, 174, 176, 177, 178, 179, 180, 181, 249, 250, 251, 252, 230, 231, 232, 233, 234, 235, 236, 237, 271, 272, 273, 257, 258, 259, 279, 281, 282, 283, 284, 285, 286, 287, 288, 289, 290, 291, 292, 293, 294, 295, 160, 298, 299, 300, 301, 302, 303, 304, 2, 224, 0, 0, 0, 0, 0, 0, 0, 0, 0, 0, 0, 0, 0, 0, 0, 0, 268, 269, 3, 9, 10, 11, 17, 22, 23, 24, 25, 26, 27, 29, 4, 31, 36, 37, 39, 40, 41, 42, 43, 47, 5, 49, 50, 51, 52, 53, 54, 6, 55, 56, 57, 58, 59, 7, 62, 63, 64, 65, 66, 67, 70, 71, 74, 75, 77, 78, 81, 82, 8, 83, 84, 85, 88, 90, 92, 93, 112, 125, 127, 129, 131, 138, 139, 141, 142, 148, 151, 159, 194, 201, 215, 248, 210, 240, 244, 296].getD n 0
theorem chk561 : chkF Go.Proofs.Tryz.prog F 561 fi561 = true := by decide +kernel
theorem chk540 : chkF Go.Proofs.Tryz.prog F 540 fi540 = true := by decide +kernel
theorem chk541 : chkF Go.Proofs.Tryz.prog F 541 fi541 = true := by decide +kernel
theorem chk542 : chkF Go.Proofs.Tryz.prog F 542 fi542 = true := by decide +kernel
theorem chk163 : chkF Go.Proofs.Tryz.prog F 163 fi163 = true := by decide +kernel
theorem chk381 : chkF Go.Proofs.Tryz.prog F 381 fi381 = true := by decide +kernel
theorem chk185 : chkF Go.Proofs.Tryz.prog F 185 fi185 = true := by decide +kernel
theorem chk19 : chkF Go.Proofs.Tryz.prog F 19 fi19 = true := by decide +kernel
theorem chk166 : chkF Go.Proofs.Tryz.prog F 166 fi166 = true := by decide +kernel
theorem chk543 : chkF Go.Proofs.Tryz.prog F 543 fi543 = true := by decide +kernel
theorem chk214 : chkF Go.Proofs.Tryz.prog F 214 fi214 = true := by decide +kernel
theorem chk213 : chkF Go.Proofs.Tryz.prog F 213 fi213 = true := by decide +kernel
theorem chk142 : chkF Go.Proofs.Tryz.prog F 142 fi142 = true := by decide +kernel
theorem chk211 : chkF Go.Proofs.Tryz.prog F 211 fi211 = true := by decide +kernel
theorem chk544 : chkF Go.Proofs.Tryz.prog F 544 fi544 = true := by decide +kernel
theorem chk545 : chkF Go.Proofs.Tryz.prog F 545 fi545 = true := by decide +kernel
theorem chk546 : chkF Go.Proofs.Tryz.prog F 546 fi546 = true := by decide +kernel
theorem chk547 : chkF Go.Proofs.Tryz.prog F 547 fi547 = true := by decide +kernel
theorem chk548 : chkF Go.Proofs.Tryz.prog F 548 fi548 = true := by decide +kernel
theorem chk549 : chkF Go.Proofs.Tryz.prog F 549 fi549 = true := by decide +kernel
theorem chk183 : chkF Go.Proofs.Tryz.prog F 183 fi183 = true := by decide +kernel
theorem chk550 : chkF Go.Proofs.Tryz.prog F 550 fi550 = true := by decide +kernel
theorem chk22 : chkF Go.Proofs.Tryz.prog F 22 fi22 = true := by decide +kernel
theorem chk562 : chkF Go.Proofs.Tryz.prog F 562 fi562 = true := by decide +kernel
theorem chk563 : chkF Go.Proofs.Tryz.prog F 563 fi563 = true := by decide +kernel
theorem chk564 : chkF Go.Proofs.Tryz.prog F 564 fi564 = true := by decide +kernel
theorem chk565 : chkF Go.Proofs.Tryz.prog F 565 fi565 = true := by decide +kernel
theorem chk566 : chkF Go.Proofs.Tryz.prog F 566 fi566 = true := by decide +kernel
theorem chk567 : chkF Go.Proofs.Tryz.prog F 567 fi567 = true := by decide +kernel
theorem chk82 : chkF Go.Proofs.Tryz.prog F 82 fi82 = true := by decide +kernel
theorem chk74 : chkF Go.Proofs.Tryz.prog F 74 fi74 = true := by decide +kernel
theorem chk593 : chkF Go.Proofs.Tryz.prog F 593 fi593 = true := by decide +kernel
theorem chk187 : chkF Go.Proofs.Tryz.prog F 187 fi187 = true := by decide +kernel
theorem chk594 : chkF Go.Proofs.Tryz.prog F 594 fi594 = true := by decide +kernel
theorem chk77 : chkF Go.Proofs.Tryz.prog F 77 fi77 = true := by decide +kernel
theorem chk595 : chkF Go.Proofs.Tryz.prog F 595 fi595 = true := by decide +kernel
theorem chk596 : chkF Go.Proofs.Tryz.prog F 596 fi596 = true := by decide +kernel
theorem chk167 : chkF Go.Proofs.Tryz.prog F 167 fi167 = true := by decide +kernel
theorem chk106 : chkF Go.Proofs.Tryz.prog F 106 fi106 = true := by decide +kernel
theorem chk191 : chkF Go.Proofs.Tryz.prog F 191 fi191 = true := by decide +kernel
theorem chk186 : chkF Go.Proofs.Tryz.prog F 186 fi186 = true := by decide +kernel
theorem chk59 : chkF Go.Proofs.Tryz.prog F 59 fi59 = true := by decide +kernel
theorem chk177 : chkF Go.Proofs.Tryz.prog F 177 fi177 = true := by decide +kernel
theorem chk176 : chkF Go.Proofs.Tryz.prog F 176 fi176 = true := by decide +kernel
theorem chk218 : chkF Go.Proofs.Tryz.prog F 218 fi218 = true := by decide +kernel
theorem chk217 : chkF Go.Proofs.Tryz.prog F 217 fi217 = true := by decide +kernel
theorem chk160 : chkF Go.Proofs.Tryz.prog F 160 fi160 = true := by decide +kernel
theorem chk165 : chkF Go.Proofs.Tryz.prog F 165 fi165 = true := by decide +kernel
theorem chk216 : chkF Go.Proofs.Tryz.prog F 216 fi216 = true := by decide +kernel
theorem chk138 : chkF Go.Proofs.Tryz.prog F 138 fi138 = true := by decide +kernel
theorem chk172 : chkF Go.Proofs.Tryz.prog F 172 fi172 = true := by decide +kernel
theorem chk181 : chkF Go.Proofs.Tryz.prog F 181 fi181 = true := by decide +kernel
theorem chk171 : chkF Go.Proofs.Tryz.prog F 171 fi171 = true := by decide +kernel
theorem chk192 : chkF Go.Proofs.Tryz.prog F 192 fi192 = true := by decide +kernel
theorem chk193 : chkF Go.Proofs.Tryz.prog F 193 fi193 = true := by decide +kernel
theorem chk198 : chkF Go.Proofs.Tryz.prog F 198 fi198 = true := by decide +kernel
theorem chk199 : chkF Go.Proofs.Tryz.prog F 199 fi199 = true := by decide +kernel
theorem chk197 : chkF Go.Proofs.Tryz.prog F 197 fi197 = true := by decide +kernel
theorem chk104 : chkF Go.Proofs.Tryz.prog F 104 fi104 = true := by decide +kernel
theorem chk64 : chkF Go.Proofs.Tryz.prog F 64 fi64 = true := by decide +kernel
theorem chk101 : chkF Go.Proofs.Tryz.prog F 101 fi101 = true := by decide +kernel
theorem chk62 : chkF Go.Proofs.Tryz.prog F 62 fi62 = true := by decide +kernel
theorem chk99 : chkF Go.Proofs.Tryz.prog F 99 fi99 = true := by decide +kernel
theorem chk63 : chkF Go.Proofs.Tryz.prog F 63 fi63 = true := by decide +kernel
theorem chk602 : chkF Go.Proofs.Tryz.prog F 602 fi602 = true := by decide +kernel
theorem chk603 : chkF Go.Proofs.Tryz.prog F 603 fi603 = true := by decide +kernel
theorem chk189 : chkF Go.Proofs.Tryz.prog F 189 fi189 = true := by decide +kernel
theorem chk105 : chkF Go.Proofs.Tryz.prog F 105 fi105 = true := by decide +kernel
theorem chk188 : chkF Go.Proofs.Tryz.prog F 188 fi188 = true := by decide +kernel
theorem chk178 : chkF Go.Proofs.Tryz.prog F 178 fi178 = true := by decide +kernel
theorem chk180 : chkF Go.Proofs.Tryz.prog F 180 fi180 = true := by decide +kernel
theorem chk179 : chkF Go.Proofs.Tryz.prog F 179 fi179 = true := by decide +kernel
theorem chk182 : chkF Go.Proofs.Tryz.prog F 182 fi182 = true := by decide +kernel
theorem chk161 : chkF Go.Proofs.Tryz.prog F 161 fi161 = true := by decide +kernel
theorem chk109 : chkF Go.Proofs.Tryz.prog F 109 fi109 = true := by decide +kernel
theorem chk200 : chkF Go.Proofs.Tryz.prog F 200 fi200 = true := by decide +kernel
theorem chk202 : chkF Go.Proofs.Tryz.prog F 202 fi202 = true := by decide +kernel
theorem chk201 : chkF Go.Proofs.Tryz.prog F 201 fi201 = true := by decide +kernel
theorem chk61 : chkF Go.Proofs.Tryz.prog F 61 fi61 = true := by decide +kernel
theorem chk203 : chkF Go.Proofs.Tryz.prog F 203 fi203 = true := by decide +kernel
theorem chk119 : chkF Go.Proofs.Tryz.prog F 119 fi119 = true := by decide +kernel
theorem chk204 : chkF Go.Proofs.Tryz.prog F 204 fi204 = true := by decide +kernel
theorem chk66 : chkF Go.Proofs.Tryz.prog F 66 fi66 = true := by decide +kernel
theorem chk124 : chkF Go.Proofs.Tryz.prog F 124 fi124 = true := by decide +kernel
theorem chk71 : chkF Go.Proofs.Tryz.prog F 71 fi71 = true := by decide +kernel
theorem chk100 : chkF Go.Proofs.Tryz.prog F 100 fi100 = true := by decide +kernel
theorem chk116 : chkF Go.Proofs.Tryz.prog F 116 fi116 = true := by decide +kernel
theorem chk108 : chkF Go.Proofs.Tryz.prog F 108 fi108 = true := by decide +kernel
theorem chk107 : chkF Go.Proofs.Tryz.prog F 107 fi107 = true := by decide +kernel
theorem chk610 : chkF Go.Proofs.Tryz.prog F 610 fi610 = true := by decide +kernel
theorem chk103 : chkF Go.Proofs.Tryz.prog F 103 fi103 = true := by decide +kernel
theorem chk184 : chkF Go.Proofs.Tryz.prog F 184 fi184 = true := by decide +kernel
theorem chk206 : chkF Go.Proofs.Tryz.prog F 206 fi206 = true := by decide +kernel
theorem chk127 : chkF Go.Proofs.Tryz.prog F 127 fi127 = true := by decide +kernel
theorem chk195 : chkF Go.Proofs.Tryz.prog F 195 fi195 = true := by decide +kernel
theorem chk196 : chkF Go.Proofs.Tryz.prog F 196 fi196 = true := by decide +kernel
theorem chk173 : chkF Go.Proofs.Tryz.prog F 173 fi173 = true := by decide +kernel
theorem chk205 : chkF Go.Proofs.Tryz.prog F 205 fi205 = true := by decide +kernel
theorem chk130 : chkF Go.Proofs.Tryz.prog F 130 fi130 = true := by decide +kernel
theorem chk125 : chkF Go.Proofs.Tryz.prog F 125 fi125 = true := by decide +kernel
theorem hT : ∀ f fi, E f = none → T f = some fi → chkF Go.Proofs.Tryz.prog F f fi = true := by
  have all : ∀ x ∈ tab, chkF Go.Proofs.Tryz.prog F x.1 x.2 = true := by
    intro x hx
    simp only [tab, List.mem_cons, List.not_mem_nil, or_false] at hx
    rcases hx with rfl | rfl | rfl | rfl | rfl | rfl | rfl | rfl | rfl | rfl | rfl | rfl | rfl | rfl | rfl | rfl | rfl | rfl | rfl | rfl | rfl | rfl | rfl | rfl | rfl | rfl | rfl | rfl | rfl | rfl | rfl | rfl | rfl | rfl | rfl | rfl | rfl | rfl | rfl | rfl | rfl | rfl | rfl | rfl | rfl | rfl | rfl | rfl | rfl | rfl | rfl | rfl | rfl | rfl | rfl | rfl | rfl | rfl | rfl | rfl | rfl | rfl | rfl | rfl | rfl | rfl | rfl | rfl | rfl | rfl | rfl | rfl | rfl | rfl | rfl | rfl | rfl | rfl | rfl | rfl | rfl | rfl | rfl | rfl | rfl | rfl | rfl | rfl | rfl | rfl | rfl | rfl | rfl | rfl | rfl | rfl | rfl | rfl | rfl | rfl
    · exact chk561
    · exact chk540
    · exact chk541
    · exact chk542
    · exact chk163
    · exact chk381
    · exact chk185
    · exact chk19
    · exact chk166
    · exact chk543
    · exact chk214
    · exact chk213
    · exact chk142
    · exact chk211
    · exact chk544
    · exact chk545
    · exact chk546
    · exact chk547
    · exact chk548
    · exact chk549
    · exact chk183
    · exact chk550
    · exact chk22
    · exact chk562
    · exact chk563
    · exact chk564
    · exact chk565
    · exact chk566
    · exact chk567
    · exact chk82
    · exact chk74
    · exact chk593
    · exact chk187
    · exact chk594
    · exact chk77
    · exact chk595
    · exact chk596
    · exact chk167
    · exact chk106
    · exact chk191
    · exact chk186
    · exact chk59
    · exact chk177
    · exact chk176
    · exact chk218
    · exact chk217
    · exact chk160
    · exact chk165
    · exact chk216
    · exact chk138
    · exact chk172
    · exact chk181
    · exact chk171
    · exact chk192
    · exact chk193
    · exact chk198
    · exact chk199
    · exact chk197
    · exact chk104
    · exact chk64
    · exact chk101
    · exact chk62
    · exact chk99
    · exact chk63
    · exact chk602
    · exact chk603
    · exact chk189
    · exact chk105
    · exact chk188
    · exact chk178
    · exact chk180
    · exact chk179
    · exact chk182
    · exact chk161
    · exact chk109
    · exact chk200
    · exact chk202
    · exact chk201
    · exact chk61
    · exact chk203
    · exact chk119
    · exact chk204
    · exact chk66
    · exact chk124
    · exact chk71
    · exact chk100
    · exact chk116
    · exact chk108
    · exact chk107
    · exact chk610
    · exact chk103
    · exact chk184
    · exact chk206
    · exact chk127
    · exact chk195
    · exact chk196
    · exact chk173
    · exact chk205
    · exact chk130
    · exact chk125
  intro f fi _ h
  simp only [T, Option.map_eq_some_iff] at h
  obtain ⟨x, hx, rfl⟩ := h
  have h1 := List.find?_some hx
  have h2 := List.mem_of_find?_eq_some hx
  have h3 : x.1 = f := by simpa using h1
  rw [← h3]; exact all x h2
end Go.Proofs.YtnamhjdfegohbaaGreatDoor.Ab

/- FOR CONTRACTS outside the table: calls that turn nothing old. -/
namespace Go.Proofs.YtnamhjdfegohbaaGreatDoor.Ab
open Go Go.RowKit

theorem StepR.below' {F : Nat → Nat} {base : Nat} {m : Emb} {h : AH} {w w' : World} (hr : RelH F base m h w) (hb : Below w.heap.size w w') : StepR F base m h w m h w' :=
  StepR.grown hr hb.block hb.size hb.os hb.tape hb.output

/-- A contract of one function. -/
def ExtAt (P : Program) (F : Nat → Nat) (f : Nat) (G : List AV → Option AV) : Prop :=
  ∀ xs r, G xs = some r → fnOk P (F f) = true ∧ ∀ (m : Emb) (w : World) (args : Array Value), RelL F m xs args.toList →
    Calls P (F f) args w fun e w' => ∃ v, e = .returned v ∧ RelV F m r v ∧ Below w.heap.size w w'
/-- .. that reads the heap. -/
def ExtAtH (P : Program) (F : Nat → Nat) (f : Nat) (G : List AV → AH → Option AV) : Prop :=
  ∀ xs h r, G xs h = some r → fnOk P (F f) = true ∧ ∀ (base : Nat) (m : Emb) (w : World) (args : Array Value), RelH F base m h w → RelL F m xs args.toList →
    Calls P (F f) args w fun e w' => ∃ v, e = .returned v ∧ RelV F m r v ∧ Below w.heap.size w w'
theorem ExtAt.h {P : Program} {F : Nat → Nat} {f : Nat} {G : List AV → Option AV} (hG : ExtAt P F f G) : ExtAtH P F f fun xs _ => G xs := fun xs _ r hr => by
  obtain ⟨h1, h2⟩ := hG xs r hr
  exact ⟨h1, fun _ m w args _ hx => h2 m w args hx⟩
theorem ext_pure {P : Program} {F : Nat → Nat} {f : Nat} {G : List AV → AH → Option AV} (hG : ExtAtH P F f G) (cf : CF) (xs : List AV) (h : AH) (r : AV) (h' : AH) (hev : pureX G cf xs h = some (r, h')) : fnOk P (F f) = true ∧ ∀ base m w args, RelH F base m h w → RelL F m xs args.toList →
    Calls P (F f) args w fun e w' => ∃ v m', e = .returned v ∧ RelV F m' r v ∧ StepR F base m h w m' h' w' := by
  simp only [pureX, Option.map_eq_some_iff, Prod.mk.injEq] at hev
  obtain ⟨r', hr', rfl, rfl⟩ := hev
  obtain ⟨h1, h2⟩ := hG xs h r' hr'
  refine ⟨h1, fun base m w args hr hx => (h2 base m w args hr hx).mono ?_⟩
  rintro e w' ⟨v, rfl, hv, hb⟩
  exact ⟨v, m, rfl, hv, StepR.below' hr hb⟩
/-- .. that turns the heap. -/
def ExtAtW (P : Program) (F : Nat → Nat) (f : Nat) (G : List AV → AH → Option (AV × AH)) : Prop :=
  ∀ xs h r h', G xs h = some (r, h') → fnOk P (F f) = true ∧ ∀ (base : Nat) (m : Emb) (w : World) (args : Array Value), RelH F base m h w → RelL F m xs args.toList →
    Calls P (F f) args w fun e w' => ∃ v m', e = .returned v ∧ RelV F m' r v ∧ StepR F base m h w m' h' w'
/-- .. that leans on calls. -/
def ExtAtZ (P : Program) (F : Nat → Nat) (f : Nat) (G : CF → List AV → AH → Option (AV × AH)) : Prop := ∀ cf, Sound P F cf → ExtAtW P F f (G cf)
theorem ext_ok {P : Program} {F : Nat → Nat} (h : ∀ x ∈ xtab, ExtAtH P F x.1 x.2) (h2 : ∀ x ∈ ytab, ExtAtW P F x.1 x.2) (h4 : ∀ x ∈ ztab, ExtAtZ P F x.1 x.2) : ExtOk P F E := by
  intro f G hf cf hcf xs hh r h' hev
  unfold E at hf
  split at hf
  · rename_i x hx
    cases hf
    have h1 := List.find?_some hx
    have h3 : x.1 = f := by simpa using h1
    have := ext_pure (h x (List.mem_of_find?_eq_some hx)) cf xs hh r h' hev
    rwa [h3] at this
  · split at hf
    · rename_i x hx
      cases hf
      have h1 := List.find?_some hx
      have h3 : x.1 = f := by simpa using h1
      have := h2 x (List.mem_of_find?_eq_some hx) xs hh r h' hev
      rwa [h3] at this
    · simp only [Option.map_eq_some_iff] at hf
      obtain ⟨x, hx, rfl⟩ := hf
      have h1 := List.find?_some hx
      have h3 : x.1 = f := by simpa using h1
      have := h4 x (List.mem_of_find?_eq_some hx) cf hcf xs hh r h' hev
      rwa [h3] at this

/-! ### Writes, by the model's own words -/
theorem wr_cells {F : Nat → Nat} {base : Nat} {m : Emb} {h : AH} {w : World} (hr : RelH F base m h w) {c k off : Nat} {xs : List AV} {h' : AH} (hw : wrRow h c k off xs = some h') {p : Place} (hp : m.row c k = some p) (hlo : p.lo ≤ off) (hext : off + xs.length ≤ p.ext) :
    ∀ j, j < xs.length → (w.cell? ⟨p.blk, p.base + (off - p.lo) + j, none⟩).isSome = true ∧ w.frozen? ⟨p.blk, p.base + (off - p.lo) + j, none⟩ = false := by
  unfold wrRow at hw
  split at hw
  · rename_i cs ver fl hc
    split at hw
    · rename_i hcond
      obtain ⟨rfl, hfl, hl, hsc⟩ := hcond
      obtain ⟨_, h2, h3, h4, C, e, fr, hg, hs, hb, hf, hcell⟩ := hr.ob c _ hc k p hp hfl
      intro j hj
      have hlt : p.base + (off - p.lo) + j < C.size := by omega
      have hf' := hf rfl
      constructor
      · simp only [World.cell?, hg, Option.isSome_none, Bool.false_eq_true, if_false]
        rw [Array.getElem?_eq_getElem hlt]; rfl
      · simp only [World.frozen?, hg]
        rcases hf' with h | h
        · simp; omega
        · simp; omega
    · cases hw
  · cases hw
theorem wr_set {P : Program} {F : Nat → Nat} {base : Nat} {m : Emb} {h : AH} {w : World} (hr : RelH F base m h w) {c k off : Nat} {xs : List AV} {h' : AH} (hw : wrRow h c k off xs = some h') {p : Place} (hp : m.row c k = some p) (hlo : p.lo ≤ off) (hext : off + xs.length ≤ p.ext) {vs : List Value} (hvs : RelL F m xs vs) (hone : ∀ v ∈ vs, v.oneCell' = true) :
    StepR F base m h w m h' (w.setCells p.blk (p.base + (off - p.lo)) vs) := by
  obtain ⟨w', h1, h2⟩ := wr_step (P := P) hr hw hp hlo hext hvs
  have hl := hvs.length
  have hc := wr_cells hr hw hp hlo hext
  have h3 := run_storeCells_cells (P := P) p.blk (p.base + (off - p.lo)) vs 0 w (fun j hj => by simpa using (hc j (by omega)).1) (fun j hj => by simpa using (hc j (by omega)).2) hone
  rw [h1] at h3
  cases h3
  exact h2
/-- 'clear(s)' at elements of three numbers. -/
theorem run_clear3 {P : Program} (w : World) (t e ty : TypeId) (z : Value) (ht : P.underlying t = some (.slice e)) (hv : ∀ w, (zeroValue e).run P w = .ok z w) (hz : z.cells = #[.int .i64 0, .int .i64 0, .int .i64 0]) (b o n c : Nat) (hn : 0 < n)
    (hc : ∀ j, j < n * 3 → (w.cell? ⟨b, o + j, none⟩).isSome = true) (hf : ∀ j, j < n * 3 → w.frozen? ⟨b, o + j, none⟩ = false) :
    (Builtin.clear_ #[t] ty #[.slice (some ⟨b, o, none⟩) n c]).run P w = .ok (.tuple #[]) (w.setCells b o (List.replicate (n * 3) (.int .i64 0))) := by
  have hzc : (Builtin.zeroCells z.cells n).toList = List.replicate (n * 3) (.int .i64 0) := by
    rw [hz]
    simp only [Builtin.zeroCells]
    apply List.ext_getElem
    · simp
    · intro i h1 h2
      have : i % 3 = 0 ∨ i % 3 = 1 ∨ i % 3 = 2 := by omega
      rcases this with h | h | h <;> simp [h]
  have hst := run_storeCells_cells (P := P) b o (List.replicate (n * 3) (.int .i64 0)) 0 w (by simpa using hc) (by simpa using hf) (by intro v hv'; rw [List.eq_of_mem_replicate hv']; rfl)
  simp only [Nat.add_zero] at hst
  obtain ⟨m, rfl⟩ : ∃ m, n = m + 1 := ⟨n - 1, by omega⟩
  simp [Builtin.clear_, run_underlying ht, hv, hzc, hst]
end Go.Proofs.YtnamhjdfegohbaaGreatDoor.Ab

/- THE SEAT's contract of slices.Delete at clues, by a walk over the library's own text. -/
namespace Go.Proofs.YtnamhjdfegohbaaGreatDoor.Ab
open Go Go.RowKit Go.Lib

set_option maxHeartbeats 4000000 in
set_option maxRecDepth 1000000 in
/-- slices.Delete, 220 in the machine's numbers. -/
theorem del_walk (b off n cap i j : Nat) (news : List Value) (w : World) (hij : i < j) (hj : j ≤ n) (hcap : n ≤ cap) (hm : n ≤ 1099511627776) (hlen : news.length = (n - j) * 3) (hone : ∀ u ∈ news, u.oneCell' = true) (hsrc : ∀ (t : Nat) u, news[t]? = some u → w.cell? ⟨b, off + j * 3 + t, none⟩ = some u)
    (hc : ∀ t, t < n * 3 → (w.cell? ⟨b, off + t, none⟩).isSome = true ∧ w.frozen? ⟨b, off + t, none⟩ = false) :
    Calls Go.Proofs.Tryz.prog 170 #[.slice (some ⟨b, off, none⟩) n cap, .int .i64 i, .int .i64 j] w fun e w' => e = .returned (.slice (some ⟨b, off, none⟩) (n - (j - i)) cap) ∧
      w' = (w.drew.setCells b (off + i * 3) news).setCells b (off + (i + (n - j)) * 3) (List.replicate ((j - i) * 3) (.int .i64 0)) := by
  have hi3 : (Go.Proofs.Tryz.prog.info? 26).map (fun i => (i.zero, i.size, i.bytes)) = some (some (.agg #[.int .i64 0, .int .i64 0, .int .i64 0]), 3, 24) := by kernel_rfl
  obtain ⟨i0, hi0, hz0, hz1, hz2⟩ := info_parts hi3
  obtain ⟨A, hA, hnews⟩ : ∃ A : Addr, (if cap = j then some (⟨b, off, none⟩ : Addr) else some ⟨b, off + j * 3, none⟩) = some A ∧ Hid (∀ (t : Nat) u, news[t]? = some u → w.drew.cell? (A.add t) = some u) := by
    by_cases h : cap = j
    · refine ⟨⟨b, off, none⟩, by simp [h], fun t u hu => ?_⟩
      have h0 : news.length = 0 := by rw [hlen]; omega
      rw [List.length_eq_zero_iff.1 h0] at hu
      simp at hu
    · refine ⟨⟨b, off + j * 3, none⟩, by simp [h], fun t u hu => ?_⟩
      rw [Addr.add_lit]
      exact hsrc t u hu
  have s1 : Hid (news.length = (n - j) * 3) := hlen
  have s2 : Hid (∀ u ∈ news, u.oneCell' = true) := hone
  have s3 : Hid (∀ t, t < news.length → (w.drew.cell? ⟨b, off + i * 3 + t, none⟩).isSome = true ∧ w.drew.frozen? ⟨b, off + i * 3 + t, none⟩ = false) := by
    intro t ht
    rw [hlen] at ht
    rw [Nat.add_assoc]
    exact hc (i * 3 + t) (by omega)
  obtain ⟨W1, hW1⟩ : ∃ W1, W1 = w.drew.setCells b (off + i * 3) news := ⟨_, rfl⟩
  have hc1 : ∀ t, t < (n - (i + (n - j))) * 3 → (W1.cell? ⟨b, off + (i + (n - j)) * 3 + t, none⟩).isSome = true := by
    intro t ht
    rw [hW1, World.cell?_setCells_out b news _ _ _ (fun _ _ => .inr (by simp only [hlen]; omega))]
    have := (hc ((i + (n - j)) * 3 + t) (by omega)).1
    rwa [← Nat.add_assoc] at this
  have hf1 : ∀ t, t < (n - (i + (n - j))) * 3 → W1.frozen? ⟨b, off + (i + (n - j)) * 3 + t, none⟩ = false := by
    intro t ht
    rw [hW1, World.frozen?_setCells]
    have := (hc ((i + (n - j)) * 3 + t) (by omega)).2
    rwa [← Nat.add_assoc] at this
  have hcl : ∀ ty, (Builtin.clear_ #[22] ty #[.slice (some ⟨b, off + (i + (n - j)) * 3, none⟩) (n - (i + (n - j))) (cap - (i + (n - j)))]).run Go.Proofs.Tryz.prog W1 = .ok (.tuple #[]) (W1.setCells b (off + (i + (n - j)) * 3) (List.replicate ((n - (i + (n - j))) * 3) (.int .i64 0))) :=
    fun ty => run_clear3 W1 _ _ ty (.agg #[.int .i64 0, .int .i64 0, .int .i64 0]) Go.Proofs.Tryz.underlying22 (fun w => by kernel_rfl) rfl b _ _ _ (by omega) hc1 hf1
  have hW : Hid (W1 = w.drew.setCells b (off + i * 3) news) := hW1
  have hic : i ≤ cap := by omega
  have hjc : j ≤ cap := by omega
  clear hW1 hc1 hf1 hc hsrc hone hlen
  go_enter Go.Proofs.Tryz.func170, Go.Proofs.Tryz.ntmps170
  go_wp2_with fail
  go_region_law (refine step_append_room rfl (.tmp 22) (.tmp 25) 22 rfl 26 i0 3 Go.Proofs.Tryz.underlying22 hi0 hz1 b off i cap (by simp [Act.eval, Act.put]) A (n - j) (cap - j) news (by simp [Act.eval, Act.put]) s1.out hnews.out s2.out (by omega) s3.out ?_; rw [← hW.out])
  go_wp2
  go_ret
  refine ⟨by rw [show n - (j - i) = i + (n - j) by omega]; rfl, ?_⟩
  rw [show n - (i + (n - j)) = j - i by omega, ← hW.out]
theorem rel_three {m : Emb} {args : Array Value} {x y z : AV} (h : RelL F m [x, y, z] args.toList) : ∃ u v t, args = #[u, v, t] ∧ RelV F m x u ∧ RelV F m y v ∧ RelV F m z t := by
  simp only [RelL] at h
  obtain ⟨u, l, e1, h1, v, l2, rfl, h2, t, l3, rfl, h3, rfl⟩ := h
  exact ⟨u, v, t, by rw [← Array.toArray_toList (xs := args), e1], h1, h2, h3⟩
theorem x_Delete3 : ExtAtW Go.Proofs.Tryz.prog F 220 xDelete3 := by
  intro xs h r h' hr
  unfold xDelete3 at hr
  split at hr
  · rename_i hh c k off n e i j
    split at hr
    · rename_i hcond
      obtain ⟨rfl, hi0, hij, hj, hm⟩ := hcond
      split at hr
      · rename_i cs hcs
        split at hr
        · rename_i h1 hw1
          split at hr
          · rename_i h2 hw2
            simp only [Option.some.injEq, Prod.mk.injEq] at hr
            obtain ⟨rfl, rfl⟩ := hr
            refine ⟨by decide +kernel, fun base m w args hrel hx => ?_⟩
            obtain ⟨u, v, t, rfl, g1, g2, g3⟩ := rel_three hx
            obtain ⟨i, rfl⟩ : ∃ a : Nat, i = a := ⟨i.toNat, by omega⟩
            obtain ⟨j, rfl⟩ : ∃ a : Nat, j = a := ⟨j.toNat, by omega⟩
            simp only [Int.toNat_natCast] at *
            rw [rel_int g2, rel_int g3]
            simp only [RelV] at g1
            obtain ⟨p, o, cap, hp, rfl, hcap, hpl⟩ := g1
            rcases hpl with rfl | ⟨q1, rfl, q3, q4⟩
            · omega
            have hijN : i < j := by omega
            have hjN : j ≤ n := by omega
            obtain ⟨news, n1, n2, n3⟩ := hrel.row_at hcs hp (by omega) (by omega)
            have hsc : cs.all AV.sc = true := by
              unfold wrRow at hw1
              split at hw1
              · split at hw1
                · rename_i hq; exact hq.2.2.2
                · cases hw1
              · cases hw1
            have hone : ∀ u ∈ news, u.oneCell' = true := by
              intro u hu
              obtain ⟨a, ha⟩ := List.mem_iff_getElem?.1 hu
              have hlt := (List.getElem?_eq_some_iff.1 ha).1
              have hla := n1.length
              obtain ⟨v', hv', hxv⟩ := n1.get a (cs[a]'(by omega)) (by simp)
              rw [ha] at hv'; cases hv'
              exact hxv.one (List.all_eq_true.1 hsc _ (by simp))
            have hlc := n1.length
            obtain ⟨cs0, ver, fl, hc0, hkv, hfl, hbd⟩ : ∃ cs0 ver fl, h[c]? = some (.row cs0 ver fl false) ∧ k = ver ∧ fl ≤ ver ∧ True := by
              unfold wrRow at hw1
              split at hw1
              · rename_i cs0 ver fl hc0
                split at hw1
                · rename_i hq; exact ⟨cs0, ver, fl, hc0, hq.1, hq.2.1, trivial⟩
                · cases hw1
              · cases hw1
            have hcell : ∀ t, t < n * 3 → (w.cell? ⟨p.blk, p.base + (off - p.lo) + t, none⟩).isSome = true ∧ w.frozen? ⟨p.blk, p.base + (off - p.lo) + t, none⟩ = false := by
              subst hkv
              obtain ⟨_, b2, b3, b4, C, ee, fr, hg, hs, hb, hf, _⟩ := hrel.ob c _ hc0 k p hp hfl
              intro t ht
              have hlt : p.base + (off - p.lo) + t < C.size := by omega
              have hf' := hf rfl
              constructor
              · simp only [World.cell?, hg, Option.isSome_none, Bool.false_eq_true, if_false]
                rw [Array.getElem?_eq_getElem hlt]; rfl
              · simp only [World.frozen?, hg]
                rcases hf' with h | h
                · simp; omega
                · simp; omega
            have hsrc : ∀ (t : Nat) u, news[t]? = some u → w.cell? ⟨p.blk, p.base + (off - p.lo) + j * 3 + t, none⟩ = some u := by
              intro t u hu
              have := n3 t u hu
              rwa [show p.base + (off + j * 3 - p.lo) = p.base + (off - p.lo) + j * 3 by omega] at this
            refine (del_walk p.blk (p.base + (off - p.lo)) n cap i j news w hijN hjN hcap hm n2 hone hsrc hcell).mono ?_
            rintro e w' ⟨rfl, rfl⟩
            refine ⟨_, m, rfl, ?_, ?_⟩
            · simp only [RelV]
              exact ⟨p, _, cap, hp, rfl, by omega, .inr ⟨q1, rfl, by omega, q4⟩⟩
            · have st0 : StepR F base m h w m h w.drew := StepR.draw hrel rfl rfl rfl rfl
              have st1 := wr_set (P := Go.Proofs.Tryz.prog) st0.rel hw1 hp (by omega) (by omega) n1 hone
              rw [show p.base + (off + i * 3 - p.lo) = p.base + (off - p.lo) + i * 3 by omega] at st1
              have hz : RelL F m (List.replicate ((j - i) * 3) (.int .i64 0)) (List.replicate ((j - i) * 3) (.int .i64 0)) := by
                refine RelL.of (by simp) ?_
                intro a x v hx hv
                rw [List.getElem?_replicate] at hx hv
                split at hx
                · cases hx
                  rename_i hlt
                  rw [if_pos hlt] at hv; cases hv
                  simp only [RelV]
                · cases hx
              have st2 := wr_set (P := Go.Proofs.Tryz.prog) st1.rel hw2 hp (by omega) (by simp only [List.length_replicate]; omega) hz (by intro v hv; rw [List.eq_of_mem_replicate hv]; rfl)
              rw [show p.base + (off + (i + (n - j)) * 3 - p.lo) = p.base + (off - p.lo) + (i + (n - j)) * 3 by omega] at st2
              exact st0.trans (st1.trans st2)
          · cases hr
        · cases hr
      · cases hr
    · cases hr
  · cases hr
end Go.Proofs.YtnamhjdfegohbaaGreatDoor.Ab

/-
  DERIVED: THE SHELF's CONTRACTS AT THIS DUMP, IN PLAIN WORDS (tools/lay-plain.mjs out of 'TryzShelf.lean', which tools/lay-shelf.mjs wrote): THE SAME DECLARATIONS UNDER THE SAME NAMES: 'import', 'namespace', 'open', 'def', 'theorem' AND NOTHING ELSE: no command of the shelf's: FOR A HAND-IN. Each laying: the table of numbers ('.._ren') and one theorem, a field a fact of the dump's own or the kernel's comparison; each contract: ONE APPLICATION.
-/
namespace Go.Proofs
open Go.Shelf
def Tryz.lays170_ren : Go.Shelf.Ren := ⟨fun | 170 => 180 | n => n, fun | 70 => 172 | 3 => 3 | 0 => 0 | 72 => 174 | 37 => 65 | 5 => 5 | n => n, fun | n => n⟩
def Tryz.lays169_ren : Go.Shelf.Ren := ⟨fun | 169 => 181 | n => n, fun | 70 => 172 | 9 => 9 | 0 => 0 | 72 => 174 | 37 => 65 | 127 => 225 | 3 => 3 | 5 => 5 | n => n, fun | n => n⟩
def Tryz.lays241_ren : Go.Shelf.Ren := ⟨fun | 241 => 237 | 277 => 259 | n => n, fun | 70 => 172 | 3 => 3 | 0 => 0 | 72 => 174 | 37 => 65 | 5 => 5 | n => n, fun | n => n⟩
def Tryz.lays165_ren : Go.Shelf.Ren := ⟨fun | 165 => 178 | 240 => 236 | 241 => 237 | 276 => 258 | 277 => 259 | n => n, fun | 70 => 172 | 3 => 3 | 0 => 0 | 4 => 4 | 9 => 9 | 20 => 20 | 72 => 174 | 37 => 65 | 164 => 240 | 5 => 5 | n => n, fun | n => n⟩
def Tryz.lays231_ren : Go.Shelf.Ren := ⟨fun | 231 => 216 | n => n, fun | 9 => 9 | 5 => 5 | 3 => 3 | 4 => 4 | n => n, fun | n => n⟩
def Tryz.lays232_ren : Go.Shelf.Ren := ⟨fun | 232 => 217 | n => n, fun | 9 => 9 | 5 => 5 | 3 => 3 | 4 => 4 | n => n, fun | n => n⟩
def Tryz.lays160_ren : Go.Shelf.Ren := ⟨fun | 160 => 161 | 232 => 217 | 231 => 216 | 227 => 218 | 234 => 220 | 233 => 219 | 236 => 222 | 235 => 221 | 228 => 249 | 271 => 252 | 151 => 251 | 197 => 250 | 120 => 273 | 152 => 272 | 260 => 271 | 137 => 163 | 119 => 279 | 224 => 231 | 225 => 230 | 217 => 224 | 266 => 255 | n => n, fun | 9 => 9 | 4 => 4 | 3 => 3 | 5 => 5 | 117 => 213 | 116 => 212 | 0 => 0 | 124 => 216 | 21 => 21 | 105 => 235 | 46 => 168 | 119 => 260 | 139 => 263 | 138 => 262 | n => n, fun | 3 => 1 | 4 => 2 | n => n⟩
theorem Tryz.lays160 : Go.Proofs.Lays.n160 Tryz.prog Tryz.lays160_ren := {
  mixed := by kernel_rfl
  f119 := Tryz.func279.trans (congrArg some (by kernel_rfl))
  f120 := Tryz.func273.trans (congrArg some (by kernel_rfl))
  f137 := Tryz.func163.trans (congrArg some (by kernel_rfl))
  f151 := Tryz.func251.trans (congrArg some (by kernel_rfl))
  f152 := Tryz.func272.trans (congrArg some (by kernel_rfl))
  f160 := Tryz.func161.trans (congrArg some (by kernel_rfl))
  f197 := Tryz.func250.trans (congrArg some (by kernel_rfl))
  f217 := Tryz.func224.trans (congrArg some (by kernel_rfl))
  f224 := Tryz.func231.trans (congrArg some (by kernel_rfl))
  f225 := Tryz.func230.trans (congrArg some (by kernel_rfl))
  f227 := Tryz.func218.trans (congrArg some (by kernel_rfl))
  f228 := Tryz.func249.trans (congrArg some (by kernel_rfl))
  f231 := Tryz.func216.trans (congrArg some (by kernel_rfl))
  f232 := Tryz.func217.trans (congrArg some (by kernel_rfl))
  f233 := Tryz.func219.trans (congrArg some (by kernel_rfl))
  f234 := Tryz.func220.trans (congrArg some (by kernel_rfl))
  f235 := Tryz.func221.trans (congrArg some (by kernel_rfl))
  f236 := Tryz.func222.trans (congrArg some (by kernel_rfl))
  f260 := Tryz.func271.trans (congrArg some (by kernel_rfl))
  f266 := Tryz.func255.trans (congrArg some (by kernel_rfl))
  f271 := Tryz.func252.trans (congrArg some (by kernel_rfl))
  t0 := Tryz.underlying0
  a0 := Tryz.isAgg0
  z0 := Tryz.sizeOf0
  v0 := Tryz.zeroValue0
  t3 := Tryz.underlying3
  a3 := Tryz.isAgg3
  z3 := Tryz.sizeOf3
  v3 := Tryz.zeroValue3
  t4 := Tryz.underlying4
  a4 := Tryz.isAgg4
  z4 := Tryz.sizeOf4
  v4 := Tryz.zeroValue4
  t5 := Tryz.underlying5
  a5 := Tryz.isAgg5
  z5 := Tryz.sizeOf5
  v5 := Tryz.zeroValue5
  t9 := Tryz.underlying9
  a9 := Tryz.isAgg9
  z9 := Tryz.sizeOf9
  v9 := Tryz.zeroValue9
  t21 := Tryz.underlying21
  a21 := Tryz.isAgg21
  z21 := Tryz.sizeOf21
  v21 := Tryz.zeroValue21
  t46 := Tryz.underlying168
  a46 := Tryz.isAgg168
  z46 := Tryz.sizeOf168
  v46 := Tryz.zeroValue168
  t105 := Tryz.underlying235
  a105 := Tryz.isAgg235
  z105 := Tryz.sizeOf235
  v105 := Tryz.zeroValue235
  t116 := Tryz.underlying212
  a116 := Tryz.isAgg212
  z116 := Tryz.sizeOf212
  t117 := Tryz.underlying213
  a117 := Tryz.isAgg213
  z117 := Tryz.sizeOf213
  v117 := Tryz.zeroValue213
  t119 := Tryz.underlying260
  a119 := Tryz.isAgg260
  z119 := Tryz.sizeOf260
  t124 := Tryz.underlying216
  a124 := Tryz.isAgg216
  z124 := Tryz.sizeOf216
  v124 := Tryz.zeroValue216
  t138 := Tryz.underlying262
  a138 := Tryz.isAgg262
  z138 := Tryz.sizeOf262
  v138 := Tryz.zeroValue262
  t139 := Tryz.underlying263
  a139 := Tryz.isAgg263
  z139 := Tryz.sizeOf263
  v139 := Tryz.zeroValue263
  g3 := by kernel_rfl
  g4 := by kernel_rfl }
def Tryz.lays119_ren : Go.Shelf.Ren := ⟨fun | 119 => 279 | n => n, fun | 21 => 21 | 4 => 4 | n => n, fun | n => n⟩
def Tryz.lays120_ren : Go.Shelf.Ren := ⟨fun | 120 => 273 | n => n, fun | 5 => 5 | 4 => 4 | n => n, fun | n => n⟩
def Tryz.lays128_ren : Go.Shelf.Ren := ⟨fun | 128 => 268 | n => n, fun | 51 => 220 | 3 => 3 | 4 => 4 | 46 => 168 | 5 => 5 | 9 => 9 | n => n, fun | n => n⟩
def Tryz.lays125_ren : Go.Shelf.Ren := ⟨fun | 125 => 242 | 128 => 268 | 129 => 269 | n => n, fun | 46 => 168 | 3 => 3 | 51 => 220 | 53 => 137 | 4 => 4 | 5 => 5 | 9 => 9 | n => n, fun | n => n⟩
def Tryz.lays137_ren : Go.Shelf.Ren := ⟨fun | 137 => 163 | 217 => 224 | 266 => 255 | n => n, fun | 9 => 9 | 5 => 5 | 3 => 3 | n => n, fun | n => n⟩
theorem Tryz.lays137 : Go.Proofs.Lays.n137 Tryz.prog Tryz.lays137_ren := {
  mixed := by kernel_rfl
  f137 := Tryz.func163.trans (congrArg some (by kernel_rfl))
  f217 := Tryz.func224.trans (congrArg some (by kernel_rfl))
  f266 := Tryz.func255.trans (congrArg some (by kernel_rfl))
  t3 := Tryz.underlying3
  a3 := Tryz.isAgg3
  z3 := Tryz.sizeOf3
  v3 := Tryz.zeroValue3
  t5 := Tryz.underlying5
  a5 := Tryz.isAgg5
  z5 := Tryz.sizeOf5
  v5 := Tryz.zeroValue5
  t9 := Tryz.underlying9
  a9 := Tryz.isAgg9
  z9 := Tryz.sizeOf9
  v9 := Tryz.zeroValue9 }
open Go.RowKit in
/-- strings.IndexByte: "IndexByte returns the index of the first instance of c in s, or -1 if c is not present in s.": IT RETURNS 'Lib.indexByte s c'; the world is as it was. (LAID: no walk: one application.) -/
theorem Tryz.strings_IndexByte (s : ByteArray) (c : Int) (w : World) :
    Calls Tryz.prog 163 #[.string s, .int .u8 c] w fun e w' => e = .returned (.int .i64 (Lib.indexByte s.data.toList c.toNat.toUInt8)) ∧ w' = w := Any.strings_IndexByte Tryz.lays137 s c w
def Tryz.lays195_ren : Go.Shelf.Ren := ⟨fun | 195 => 253 | n => n, fun | 9 => 9 | 3 => 3 | 0 => 0 | 4 => 4 | n => n, fun | n => n⟩
def Tryz.lays129_ren : Go.Shelf.Ren := ⟨fun | 129 => 269 | n => n, fun | 53 => 137 | 3 => 3 | 4 => 4 | 46 => 168 | 5 => 5 | 9 => 9 | n => n, fun | n => n⟩
def Tryz.lays217_ren : Go.Shelf.Ren := ⟨fun | 217 => 224 | 266 => 255 | n => n, fun | 9 => 9 | 5 => 5 | 3 => 3 | n => n, fun | n => n⟩
def Tryz.lays224_ren : Go.Shelf.Ren := ⟨fun | 224 => 231 | n => n, fun | 3 => 3 | n => n, fun | n => n⟩
def Tryz.lays314_ren : Go.Shelf.Ren := ⟨fun | 314 => 257 | n => n, fun | 9 => 9 | 51 => 220 | 3 => 3 | 4 => 4 | 5 => 5 | 46 => 168 | n => n, fun | n => n⟩
def Tryz.lays267_ren : Go.Shelf.Ren := ⟨fun | 267 => 232 | 314 => 257 | n => n, fun | 9 => 9 | 3 => 3 | 146 => 221 | 51 => 220 | 4 => 4 | 5 => 5 | 46 => 168 | n => n, fun | n => n⟩
def Tryz.lays219_ren : Go.Shelf.Ren := ⟨fun | 219 => 174 | 217 => 224 | 225 => 230 | 224 => 231 | 267 => 232 | 266 => 255 | 314 => 257 | n => n, fun | 9 => 9 | 3 => 3 | 4 => 4 | 5 => 5 | 46 => 168 | 146 => 221 | 51 => 220 | n => n, fun | 1 => 0 | n => n⟩
def Tryz.lays143_ren : Go.Shelf.Ren := ⟨fun | 143 => 111 | 219 => 174 | 217 => 224 | 225 => 230 | 224 => 231 | 267 => 232 | 266 => 255 | 314 => 257 | n => n, fun | 9 => 9 | 3 => 3 | 4 => 4 | 5 => 5 | 46 => 168 | 146 => 221 | 51 => 220 | n => n, fun | 1 => 0 | n => n⟩
theorem Tryz.lays143 : Go.Proofs.Lays.n143 Tryz.prog Tryz.lays143_ren := {
  mixed := by kernel_rfl
  f143 := Tryz.func111.trans (congrArg some (by kernel_rfl))
  f217 := Tryz.func224.trans (congrArg some (by kernel_rfl))
  f219 := Tryz.func174.trans (congrArg some (by kernel_rfl))
  f224 := Tryz.func231.trans (congrArg some (by kernel_rfl))
  f225 := Tryz.func230.trans (congrArg some (by kernel_rfl))
  f266 := Tryz.func255.trans (congrArg some (by kernel_rfl))
  f267 := Tryz.func232.trans (congrArg some (by kernel_rfl))
  f314 := Tryz.func257.trans (congrArg some (by kernel_rfl))
  t3 := Tryz.underlying3
  a3 := Tryz.isAgg3
  z3 := Tryz.sizeOf3
  v3 := Tryz.zeroValue3
  t4 := Tryz.underlying4
  a4 := Tryz.isAgg4
  z4 := Tryz.sizeOf4
  v4 := Tryz.zeroValue4
  t5 := Tryz.underlying5
  a5 := Tryz.isAgg5
  z5 := Tryz.sizeOf5
  v5 := Tryz.zeroValue5
  t9 := Tryz.underlying9
  a9 := Tryz.isAgg9
  z9 := Tryz.sizeOf9
  v9 := Tryz.zeroValue9
  t46 := Tryz.underlying168
  a46 := Tryz.isAgg168
  z46 := Tryz.sizeOf168
  v46 := Tryz.zeroValue168
  t51 := Tryz.underlying220
  a51 := Tryz.isAgg220
  z51 := Tryz.sizeOf220
  v51 := Tryz.zeroValue220
  t146 := Tryz.underlying221
  a146 := Tryz.isAgg221
  z146 := Tryz.sizeOf221
  v146 := Tryz.zeroValue221
  g1 := by kernel_rfl }
open Go.RowKit Go.Lib in
/-- strings.Index: "Index returns the index of the first instance of substr in s, or -1 if substr is not present in s.": AT A substr OF ONE BYTE c: IT RETURNS 'Lib.indexByte s c'; the world is as it was. (LAID: no walk: one application.) -/
theorem Tryz.strings_Index_one (s : ByteArray) (c : UInt8) (w : World) :
    Calls Tryz.prog 111 #[.string s, .string ⟨#[c]⟩] w fun e w' => e = .returned (.int .i64 (Lib.indexByte s.data.toList c)) ∧ w' = w := Any.strings_Index_one Tryz.lays143 s c w
def Tryz.lays144_ren : Go.Shelf.Ren := ⟨fun | 144 => 226 | 143 => 111 | 219 => 174 | 217 => 224 | 225 => 230 | 224 => 231 | 267 => 232 | 266 => 255 | 314 => 257 | n => n, fun | 9 => 9 | 4 => 4 | 3 => 3 | 5 => 5 | 46 => 168 | 146 => 221 | 51 => 220 | n => n, fun | 1 => 0 | n => n⟩
theorem Tryz.lays144 : Go.Proofs.Lays.n144 Tryz.prog Tryz.lays144_ren := {
  mixed := by kernel_rfl
  f143 := Tryz.func111.trans (congrArg some (by kernel_rfl))
  f144 := Tryz.func226.trans (congrArg some (by kernel_rfl))
  f217 := Tryz.func224.trans (congrArg some (by kernel_rfl))
  f219 := Tryz.func174.trans (congrArg some (by kernel_rfl))
  f224 := Tryz.func231.trans (congrArg some (by kernel_rfl))
  f225 := Tryz.func230.trans (congrArg some (by kernel_rfl))
  f266 := Tryz.func255.trans (congrArg some (by kernel_rfl))
  f267 := Tryz.func232.trans (congrArg some (by kernel_rfl))
  f314 := Tryz.func257.trans (congrArg some (by kernel_rfl))
  t3 := Tryz.underlying3
  a3 := Tryz.isAgg3
  z3 := Tryz.sizeOf3
  v3 := Tryz.zeroValue3
  t4 := Tryz.underlying4
  a4 := Tryz.isAgg4
  z4 := Tryz.sizeOf4
  v4 := Tryz.zeroValue4
  t5 := Tryz.underlying5
  a5 := Tryz.isAgg5
  z5 := Tryz.sizeOf5
  v5 := Tryz.zeroValue5
  t9 := Tryz.underlying9
  a9 := Tryz.isAgg9
  z9 := Tryz.sizeOf9
  v9 := Tryz.zeroValue9
  t46 := Tryz.underlying168
  a46 := Tryz.isAgg168
  z46 := Tryz.sizeOf168
  v46 := Tryz.zeroValue168
  t51 := Tryz.underlying220
  a51 := Tryz.isAgg220
  z51 := Tryz.sizeOf220
  v51 := Tryz.zeroValue220
  t146 := Tryz.underlying221
  a146 := Tryz.isAgg221
  z146 := Tryz.sizeOf221
  v146 := Tryz.zeroValue221
  g1 := by kernel_rfl }
open Go.RowKit Go.Lib in
/-- strings.Contains: "Contains reports whether substr is within s.": AT A substr OF ONE BYTE c: IT RETURNS 'decide (0 ≤ Lib.indexByte s c)'; the world is as it was. (LAID: no walk: one application.) -/
theorem Tryz.strings_Contains_one (s : ByteArray) (c : UInt8) (w : World) :
    Calls Tryz.prog 226 #[.string s, .string ⟨#[c]⟩] w fun e w' => e = .returned (.bool (decide (0 ≤ Lib.indexByte s.data.toList c))) ∧ w' = w := Any.strings_Contains_one Tryz.lays144 s c w
def Tryz.lays138_ren : Go.Shelf.Ren := ⟨fun | 138 => 223 | 195 => 253 | 218 => 254 | 143 => 111 | 219 => 174 | 217 => 224 | 225 => 230 | 224 => 231 | 267 => 232 | 266 => 255 | 314 => 257 | n => n, fun | 9 => 9 | 3 => 3 | 4 => 4 | 5 => 5 | 0 => 0 | 46 => 168 | 146 => 221 | 51 => 220 | n => n, fun | 1 => 0 | n => n⟩
theorem Tryz.lays138 : Go.Proofs.Lays.n138 Tryz.prog Tryz.lays138_ren := {
  mixed := by kernel_rfl
  f138 := Tryz.func223.trans (congrArg some (by kernel_rfl))
  f143 := Tryz.func111.trans (congrArg some (by kernel_rfl))
  f195 := Tryz.func253.trans (congrArg some (by kernel_rfl))
  f217 := Tryz.func224.trans (congrArg some (by kernel_rfl))
  f218 := Tryz.func254.trans (congrArg some (by kernel_rfl))
  f219 := Tryz.func174.trans (congrArg some (by kernel_rfl))
  f224 := Tryz.func231.trans (congrArg some (by kernel_rfl))
  f225 := Tryz.func230.trans (congrArg some (by kernel_rfl))
  f266 := Tryz.func255.trans (congrArg some (by kernel_rfl))
  f267 := Tryz.func232.trans (congrArg some (by kernel_rfl))
  f314 := Tryz.func257.trans (congrArg some (by kernel_rfl))
  t0 := Tryz.underlying0
  a0 := Tryz.isAgg0
  z0 := Tryz.sizeOf0
  v0 := Tryz.zeroValue0
  t3 := Tryz.underlying3
  a3 := Tryz.isAgg3
  z3 := Tryz.sizeOf3
  v3 := Tryz.zeroValue3
  t4 := Tryz.underlying4
  a4 := Tryz.isAgg4
  z4 := Tryz.sizeOf4
  v4 := Tryz.zeroValue4
  t5 := Tryz.underlying5
  a5 := Tryz.isAgg5
  z5 := Tryz.sizeOf5
  v5 := Tryz.zeroValue5
  t9 := Tryz.underlying9
  a9 := Tryz.isAgg9
  z9 := Tryz.sizeOf9
  v9 := Tryz.zeroValue9
  t46 := Tryz.underlying168
  a46 := Tryz.isAgg168
  z46 := Tryz.sizeOf168
  v46 := Tryz.zeroValue168
  t51 := Tryz.underlying220
  a51 := Tryz.isAgg220
  z51 := Tryz.sizeOf220
  v51 := Tryz.zeroValue220
  t146 := Tryz.underlying221
  a146 := Tryz.isAgg221
  z146 := Tryz.sizeOf221
  v146 := Tryz.zeroValue221
  g1 := by kernel_rfl }
open Go.RowKit Go.Lib in
/-- strings.Count AT A substr OF ONE BYTE ('hp'): "Count counts the number of non-overlapping instances of substr in s.": IT RETURNS 'Lib.countByte s (that byte)'; the world is as it was. ✋ NO CONTRACT HERE YET at an empty substr (utf8.RuneCountInString) or at a longer one (a loop over strings.Index). (LAID: no walk: one application.) -/
theorem Tryz.strings_Count_one (s : ByteArray) (c : UInt8) (w : World) :
    Calls Tryz.prog 223 #[.string s, .string ⟨#[c]⟩] w fun e w' => e = .returned (.int .i64 (Lib.countByte s.data.toList c)) ∧ w' = w := Any.strings_Count_one Tryz.lays138 s c w
def Tryz.laysM219_ren : Go.Shelf.Ren := ⟨fun | 219 => 174 | 217 => 224 | 225 => 230 | 224 => 231 | 267 => 232 | 266 => 255 | 314 => 257 | n => n, fun | 9 => 9 | 3 => 3 | 4 => 4 | 5 => 5 | 46 => 168 | 146 => 221 | 51 => 220 | n => n, fun | 1 => 0 | n => n⟩
def Tryz.laysM143_ren : Go.Shelf.Ren := ⟨fun | 143 => 111 | 219 => 174 | 217 => 224 | 225 => 230 | 224 => 231 | 267 => 232 | 266 => 255 | 314 => 257 | n => n, fun | 9 => 9 | 3 => 3 | 4 => 4 | 5 => 5 | 46 => 168 | 146 => 221 | 51 => 220 | n => n, fun | 1 => 0 | n => n⟩
def Tryz.laysM144_ren : Go.Shelf.Ren := ⟨fun | 144 => 226 | 143 => 111 | 219 => 174 | 217 => 224 | 225 => 230 | 224 => 231 | 267 => 232 | 266 => 255 | 314 => 257 | n => n, fun | 9 => 9 | 4 => 4 | 3 => 3 | 5 => 5 | 46 => 168 | 146 => 221 | 51 => 220 | n => n, fun | 1 => 0 | n => n⟩
def Tryz.laysM138_ren : Go.Shelf.Ren := ⟨fun | 138 => 223 | 195 => 253 | 218 => 254 | 143 => 111 | 219 => 174 | 217 => 224 | 225 => 230 | 224 => 231 | 267 => 232 | 266 => 255 | 314 => 257 | n => n, fun | 9 => 9 | 3 => 3 | 4 => 4 | 5 => 5 | 0 => 0 | 46 => 168 | 146 => 221 | 51 => 220 | n => n, fun | 1 => 0 | n => n⟩
def Tryz.lays221_ren : Go.Shelf.Ren := ⟨fun | 221 => 210 | 268 => 244 | 138 => 223 | 143 => 111 | 195 => 253 | 197 => 250 | 218 => 254 | 219 => 174 | 260 => 271 | 217 => 224 | 225 => 230 | 224 => 231 | 267 => 232 | 266 => 255 | 314 => 257 | n => n, fun | 9 => 9 | 3 => 3 | 31 => 30 | 4 => 4 | 0 => 0 | 105 => 235 | 21 => 21 | 5 => 5 | 46 => 168 | 119 => 260 | 139 => 263 | 138 => 262 | 146 => 221 | 51 => 220 | n => n, fun | 1 => 0 | 3 => 1 | 4 => 2 | n => n⟩
def Tryz.lays146_ren : Go.Shelf.Ren := ⟨fun | 146 => 153 | 221 => 210 | 268 => 244 | 138 => 223 | 143 => 111 | 195 => 253 | 197 => 250 | 218 => 254 | 219 => 174 | 260 => 271 | 217 => 224 | 225 => 230 | 224 => 231 | 267 => 232 | 266 => 255 | 314 => 257 | n => n, fun | 9 => 9 | 31 => 30 | 3 => 3 | 4 => 4 | 0 => 0 | 105 => 235 | 21 => 21 | 5 => 5 | 46 => 168 | 119 => 260 | 139 => 263 | 138 => 262 | 146 => 221 | 51 => 220 | n => n, fun | 1 => 0 | 3 => 1 | 4 => 2 | n => n⟩
def Tryz.lays154_ren : Go.Shelf.Ren := ⟨fun | 154 => 240 | 138 => 223 | 165 => 178 | 143 => 111 | 166 => 179 | 197 => 250 | 169 => 181 | 195 => 253 | 218 => 254 | 240 => 236 | 241 => 237 | 219 => 174 | 260 => 271 | 276 => 258 | 277 => 259 | 217 => 224 | 225 => 230 | 224 => 231 | 267 => 232 | 266 => 255 | 314 => 257 | n => n, fun | 9 => 9 | 3 => 3 | 4 => 4 | 72 => 174 | 0 => 0 | 76 => 178 | 105 => 235 | 21 => 21 | 5 => 5 | 70 => 172 | 20 => 20 | 37 => 65 | 75 => 177 | 127 => 225 | 164 => 240 | 46 => 168 | 119 => 260 | 139 => 263 | 138 => 262 | 146 => 221 | 51 => 220 | 80 => 140 | n => n, fun | 1 => 0 | 3 => 1 | 4 => 2 | n => n⟩
def Tryz.lays155_ren : Go.Shelf.Ren := ⟨fun | 155 => 202 | 154 => 240 | 138 => 223 | 165 => 178 | 143 => 111 | 166 => 179 | 197 => 250 | 169 => 181 | 195 => 253 | 218 => 254 | 240 => 236 | 241 => 237 | 219 => 174 | 260 => 271 | 276 => 258 | 277 => 259 | 217 => 224 | 225 => 230 | 224 => 231 | 267 => 232 | 266 => 255 | 314 => 257 | n => n, fun | 9 => 9 | 3 => 3 | 4 => 4 | 72 => 174 | 0 => 0 | 76 => 178 | 105 => 235 | 21 => 21 | 5 => 5 | 70 => 172 | 20 => 20 | 37 => 65 | 75 => 177 | 127 => 225 | 164 => 240 | 46 => 168 | 119 => 260 | 139 => 263 | 138 => 262 | 146 => 221 | 51 => 220 | 80 => 140 | n => n, fun | 1 => 0 | 3 => 1 | 4 => 2 | n => n⟩
def Tryz.laysM146_ren : Go.Shelf.Ren := ⟨fun | 146 => 153 | 221 => 210 | 268 => 244 | 138 => 223 | 143 => 111 | 195 => 253 | 197 => 250 | 218 => 254 | 219 => 174 | 260 => 271 | 217 => 224 | 225 => 230 | 224 => 231 | 267 => 232 | 266 => 255 | 314 => 257 | n => n, fun | 9 => 9 | 31 => 30 | 3 => 3 | 4 => 4 | 0 => 0 | 105 => 235 | 21 => 21 | 5 => 5 | 46 => 168 | 119 => 260 | 139 => 263 | 138 => 262 | 146 => 221 | 51 => 220 | n => n, fun | 1 => 0 | 3 => 1 | 4 => 2 | n => n⟩
def Tryz.laysM154_ren : Go.Shelf.Ren := ⟨fun | 154 => 240 | 138 => 223 | 165 => 178 | 143 => 111 | 166 => 179 | 197 => 250 | 169 => 181 | 195 => 253 | 218 => 254 | 240 => 236 | 241 => 237 | 219 => 174 | 260 => 271 | 276 => 258 | 277 => 259 | 217 => 224 | 225 => 230 | 224 => 231 | 267 => 232 | 266 => 255 | 314 => 257 | n => n, fun | 9 => 9 | 3 => 3 | 4 => 4 | 72 => 174 | 0 => 0 | 76 => 178 | 105 => 235 | 21 => 21 | 5 => 5 | 70 => 172 | 20 => 20 | 37 => 65 | 75 => 177 | 127 => 225 | 164 => 240 | 46 => 168 | 119 => 260 | 139 => 263 | 138 => 262 | 146 => 221 | 51 => 220 | 80 => 140 | n => n, fun | 1 => 0 | 3 => 1 | 4 => 2 | n => n⟩
def Tryz.laysM155_ren : Go.Shelf.Ren := ⟨fun | 155 => 202 | 154 => 240 | 138 => 223 | 165 => 178 | 143 => 111 | 166 => 179 | 197 => 250 | 169 => 181 | 195 => 253 | 218 => 254 | 240 => 236 | 241 => 237 | 219 => 174 | 260 => 271 | 276 => 258 | 277 => 259 | 217 => 224 | 225 => 230 | 224 => 231 | 267 => 232 | 266 => 255 | 314 => 257 | n => n, fun | 9 => 9 | 3 => 3 | 4 => 4 | 72 => 174 | 0 => 0 | 76 => 178 | 105 => 235 | 21 => 21 | 5 => 5 | 70 => 172 | 20 => 20 | 37 => 65 | 75 => 177 | 127 => 225 | 164 => 240 | 46 => 168 | 119 => 260 | 139 => 263 | 138 => 262 | 146 => 221 | 51 => 220 | 80 => 140 | n => n, fun | 1 => 0 | 3 => 1 | 4 => 2 | n => n⟩
def Tryz.lays197_ren : Go.Shelf.Ren := ⟨fun | 197 => 250 | 260 => 271 | n => n, fun | 9 => 9 | 21 => 21 | 3 => 3 | 4 => 4 | 5 => 5 | 105 => 235 | 119 => 260 | 0 => 0 | 46 => 168 | 139 => 263 | 138 => 262 | n => n, fun | 3 => 1 | 4 => 2 | n => n⟩
def Tryz.lays152_ren : Go.Shelf.Ren := ⟨fun | 152 => 272 | 137 => 163 | 119 => 279 | 224 => 231 | 225 => 230 | 217 => 224 | 266 => 255 | n => n, fun | 9 => 9 | 21 => 21 | 3 => 3 | 4 => 4 | 5 => 5 | 0 => 0 | 46 => 168 | n => n, fun | n => n⟩
def Tryz.lays151_ren : Go.Shelf.Ren := ⟨fun | 151 => 251 | 152 => 272 | 137 => 163 | 119 => 279 | 224 => 231 | 225 => 230 | 217 => 224 | 266 => 255 | n => n, fun | 9 => 9 | 21 => 21 | 4 => 4 | 3 => 3 | 5 => 5 | 0 => 0 | 46 => 168 | n => n, fun | n => n⟩
def Tryz.lays227_ren : Go.Shelf.Ren := ⟨fun | 227 => 218 | n => n, fun | 9 => 9 | 116 => 212 | 4 => 4 | 0 => 0 | 3 => 3 | 5 => 5 | n => n, fun | n => n⟩
def Tryz.lays228_ren : Go.Shelf.Ren := ⟨fun | 228 => 249 | n => n, fun | 124 => 216 | 5 => 5 | 4 => 4 | 0 => 0 | 116 => 212 | n => n, fun | n => n⟩
def Tryz.lays268_ren : Go.Shelf.Ren := ⟨fun | 268 => 244 | 195 => 253 | 197 => 250 | 260 => 271 | n => n, fun | 9 => 9 | 3 => 3 | 31 => 30 | 4 => 4 | 105 => 235 | 21 => 21 | 0 => 0 | 5 => 5 | 119 => 260 | 46 => 168 | 139 => 263 | 138 => 262 | n => n, fun | 3 => 1 | 4 => 2 | n => n⟩
def Tryz.lays264_ren : Go.Shelf.Ren := ⟨fun | 264 => 234 | n => n, fun | 53 => 137 | 46 => 168 | n => n, fun | n => n⟩
def Tryz.lays212_ren : Go.Shelf.Ren := ⟨fun | 212 => 176 | 263 => 233 | 264 => 234 | n => n, fun | 46 => 168 | 51 => 220 | 146 => 221 | 53 => 137 | 148 => 223 | n => n, fun | n => n⟩
def Tryz.lays260_ren : Go.Shelf.Ren := ⟨fun | 260 => 271 | n => n, fun | 9 => 9 | 21 => 21 | 3 => 3 | 4 => 4 | 5 => 5 | 119 => 260 | 0 => 0 | 46 => 168 | 139 => 263 | 138 => 262 | n => n, fun | 3 => 1 | 4 => 2 | n => n⟩
def Tryz.lays271_ren : Go.Shelf.Ren := ⟨fun | 271 => 252 | 120 => 273 | 197 => 250 | 260 => 271 | n => n, fun | 9 => 9 | 21 => 21 | 3 => 3 | 4 => 4 | 5 => 5 | 105 => 235 | 119 => 260 | 0 => 0 | 46 => 168 | 139 => 263 | 138 => 262 | n => n, fun | 3 => 1 | 4 => 2 | n => n⟩
def Tryz.laysNm237_ren : Go.Shelf.Ren := ⟨fun | 37 => 243 | n => n, fun | 3 => 3 | 4 => 4 | n => n, fun | n => n⟩
def Tryz.laysSlC27_f243_ren : Go.Shelf.Ren := ⟨fun | 7 => 243 | n => n, fun | 22 => 3 | 4 => 4 | n => n, fun | n => n⟩
def Tryz.laysSlC25_f208_ren : Go.Shelf.Ren := ⟨fun | 5 => 208 | 7 => 243 | n => n, fun | 22 => 3 | 3 => 3 | 4 => 4 | n => n, fun | n => n⟩
def Tryz.laysSortM_ren : Go.Shelf.Ren := ⟨fun | 6 => 205 | 15 => 242 | 14 => 241 | 28 => 268 | 29 => 269 | 20 => 260 | 21 => 261 | 22 => 262 | 23 => 263 | 24 => 264 | 25 => 265 | 26 => 266 | 27 => 267 | 46 => 274 | 47 => 275 | 48 => 276 | 49 => 277 | 50 => 278 | 57 => 280 | n => n, fun | 22 => 37 | 24 => 85 | 25 => 203 | 3 => 3 | 39 => 168 | 0 => 0 | 53 => 220 | 55 => 137 | 4 => 4 | 46 => 245 | 45 => 244 | 50 => 33 | 5 => 5 | 9 => 9 | 66 => 254 | 70 => 258 | 76 => 265 | 77 => 266 | n => n, fun | n => n⟩
end Go.Proofs

/- THE SEAT's contracts of strings, out of the shelf. -/
namespace Go.Proofs.YtnamhjdfegohbaaGreatDoor.Ab
open Go Go.RowKit Go.Shelf

section
variable {m : Emb} {args : Array Value}
theorem rel_two {x y : AV} (h : RelL F m [x, y] args.toList) : ∃ u v, args = #[u, v] ∧ RelV F m x u ∧ RelV F m y v := by
  simp only [RelL] at h
  obtain ⟨u, l, e1, h1, v, l2, rfl, h2, rfl⟩ := h
  exact ⟨u, v, by rw [← Array.toArray_toList (xs := args), e1], h1, h2⟩
end

theorem x_Count : ExtAt Go.Proofs.Tryz.prog F 131 xCount := by
  intro xs r hr
  unfold xCount at hr
  split at hr
  · rename_i s c
    cases hr
    refine ⟨by decide +kernel, fun m w args hx => ?_⟩
    obtain ⟨u, v, rfl, h1, h2⟩ := rel_two hx
    rw [rel_str h1, rel_str h2]
    refine (Tryz.strings_Count_one ⟨s.toArray⟩ c w).mono ?_
    rintro e w' ⟨rfl, rfl⟩
    exact ⟨_, rfl, by simp only [RelV], Below.refl _ _⟩
  · cases hr
theorem x_Contains : ExtAt Go.Proofs.Tryz.prog F 126 xContains := by
  intro xs r hr
  unfold xContains at hr
  split at hr
  · rename_i s c
    cases hr
    refine ⟨by decide +kernel, fun m w args hx => ?_⟩
    obtain ⟨u, v, rfl, h1, h2⟩ := rel_two hx
    rw [rel_str h1, rel_str h2]
    refine (Tryz.strings_Contains_one ⟨s.toArray⟩ c w).mono ?_
    rintro e w' ⟨rfl, rfl⟩
    exact ⟨_, rfl, by simp only [RelV], Below.refl _ _⟩
  · cases hr
theorem x_Index : ExtAt Go.Proofs.Tryz.prog F 194 xIndex := by
  intro xs r hr
  unfold xIndex at hr
  split at hr
  · rename_i s c
    cases hr
    refine ⟨by decide +kernel, fun m w args hx => ?_⟩
    obtain ⟨u, v, rfl, h1, h2⟩ := rel_two hx
    rw [rel_str h1, rel_str h2]
    refine (Tryz.strings_Index_one ⟨s.toArray⟩ c w).mono ?_
    rintro e w' ⟨rfl, rfl⟩
    exact ⟨_, rfl, by simp only [RelV], Below.refl _ _⟩
  · cases hr
theorem x_IndexByte : ExtAt Go.Proofs.Tryz.prog F 190 xIndexByte := by
  intro xs r hr
  unfold xIndexByte at hr
  split at hr
  · rename_i s c
    cases hr
    refine ⟨by decide +kernel, fun m w args hx => ?_⟩
    obtain ⟨u, v, rfl, h1, h2⟩ := rel_two hx
    rw [rel_str h1, rel_int h2]
    refine (Tryz.strings_IndexByte ⟨s.toArray⟩ c w).mono ?_
    rintro e w' ⟨rfl, rfl⟩
    exact ⟨_, rfl, by simp only [RelV], Below.refl _ _⟩
  · cases hr
theorem x_Trim : ExtAt Go.Proofs.Tryz.prog F 111 xTrim := by
  intro xs r hr
  unfold xTrim at hr
  split at hr
  · rename_i s c
    split at hr
    · rename_i hc
      obtain ⟨h1, h2, h3⟩ := hc
      cases hr
      refine ⟨by decide +kernel, fun m w args hx => ?_⟩
      obtain ⟨u, v, rfl, g1, g2⟩ := rel_two hx
      rw [rel_str g1, rel_str g2]
      have hsz : ∀ l : List UInt8, (⟨l.toArray⟩ : ByteArray).size = l.length := fun _ => rfl
      refine (Any.strings_Trim_laid Tryz.lays160 (by kernel_rfl) ⟨s.toArray⟩ ⟨c.toArray⟩ w (by rw [hsz]; omega) (by rw [hsz]; omega) ?_).mono ?_
      · intro j b hb
        have := List.all_eq_true.1 h3 b (List.mem_of_getElem? hb)
        simpa using this
      · rintro e w' ⟨rfl, hb⟩
        exact ⟨_, rfl, by simp only [RelV], hb⟩
    · cases hr
  · cases hr

theorem xok : ExtOk Go.Proofs.Tryz.prog F E := by
  refine ext_ok ?_ ?_ ?_
  · intro x hx
    simp only [xtab, List.mem_cons, List.not_mem_nil, or_false] at hx
    rcases hx with rfl | rfl | rfl | rfl | rfl
    · exact x_Trim.h
    · exact x_IndexByte.h
    · exact x_Index.h
    · exact x_Contains.h
    · exact x_Count.h
  · intro x hx
    simp only [ytab, List.mem_cons, List.not_mem_nil, or_false] at hx
    subst hx; exact x_Delete3
  · intro x hx
    simp only [ztab, List.mem_cons, List.not_mem_nil, or_false] at hx
    all_goals cases hx
/-- ALL OF IT: what the machine says, the program does. -/
theorem all_sound : ∀ n, Sound Go.Proofs.Tryz.prog F (evF T E n) := sound hT xok
end Go.Proofs.YtnamhjdfegohbaaGreatDoor.Ab

/- RULES for the simplifier: reckoning through a body. What is still to come is hidden from it behind a tag. -/
namespace Go.Proofs.YtnamhjdfegohbaaGreatDoor.Ab
open Go

inductive Tag {α : Sort _} (a : α) : Type
  | k

/-- A function's answer. -/
def S (f : Nat) (xs : List AV) (h : AH) (post : AV → AH → Prop) (_ : Tag post) : Prop := Spec T E f xs h post
def Cx (c : C) (e : Env) (h : AH) (R : X → Env → AH → Prop) (_ : Tag c) (_ : Tag R) : Prop := WC T E c e h R
def Rx (is : List I) (e : Env) (h : AH) (Q : Env → AH → Prop) (_ : Tag is) (_ : Tag Q) : Prop := WR T E is e h Q
def Ox (o : Option (AV × AH)) (K : AV → AH → Prop) (_ : Tag K) : Prop := WO o K
/-- A branch: not gone into before it is known. -/
def WB (v : AV) (K : Bool → Prop) (_ : Tag K) : Prop := match v with
  | .bool t => K t
  | _ => False
def WF (v : AV) (K : Nat → List AV → Prop) (_ : Tag K) : Prop := match v with
  | .fn f cap => K f cap
  | _ => False
def WI (t : Bool) (A B : Prop) (_ : Tag A) (_ : Tag B) : Prop := if t = true then A else B
abbrev k {α : Sort _} {a : α} : Tag a := Tag.k

theorem WB_true {K : Bool → Prop} : WB (.bool true) K k = K true := rfl
theorem WB_false {K : Bool → Prop} : WB (.bool false) K k = K false := rfl
theorem WI_true {A B : Prop} : WI true A B k k = A := by simp [WI]
theorem WI_false {A B : Prop} : WI false A B k k = B := by simp [WI]
theorem WF_fn {f : Nat} {cap : List AV} {K : Nat → List AV → Prop} : WF (.fn f cap) K k = K f cap := rfl
theorem beq_tt : (true == true) = true := rfl
theorem beq_ff : (false == false) = true := rfl
theorem beq_tf : (true == false) = false := rfl
theorem beq_ft : (false == true) = false := rfl
theorem WB_dec {p : Prop} [Decidable p] {K : Bool → Prop} (h1 : p → K true) (h2 : ¬ p → K false) : WB (.bool (decide p)) K k := by
  by_cases h : p
  · simp [h, WB]; exact h1 h
  · simp [h, WB]; exact h2 h
theorem WB_cases {b : Bool} {K : Bool → Prop} (h1 : b = true → K true) (h2 : b = false → K false) : WB (.bool b) K k := by
  cases b
  · exact h2 rfl
  · exact h1 rfl

section
variable {e : Env} {h : AH} {Q : Env → AH → Prop} {R : X → Env → AH → Prop}

theorem w_skip : Cx .skip e h R k k = R .normal e h := propext WC_skip
theorem w_ret : Cx .ret e h R k k = R .ret e h := propext WC_ret
theorem w_exit {i : Nat} : Cx (.exit i) e h R k k = R (.exit i) e h := propext WC_exit
theorem w_reg {is : List I} : Cx (.reg is) e h R k k = Rx is e h (R .normal) k k := propext WC_reg
theorem w_drw0 {is : List I} : Cx (.drw is []) e h R k k = Rx is e h (R .normal) k k := by
  have key : ∀ cf, evDraw cf is [] e h = evR cf is e h := fun cf => by
    unfold evDraw; rw [if_pos]; intro p hp; cases hp
  apply propext
  unfold Cx Rx WC WR
  simp only [evC, key]
  constructor
  · rintro ⟨n, x, e', h', hev, hq⟩
    simp only [Option.map_eq_some_iff, Prod.mk.injEq] at hev
    obtain ⟨⟨e1, h1⟩, hev, rfl, rfl, rfl⟩ := hev
    exact ⟨n, e1, h1, hev, hq⟩
  · rintro ⟨n, e', h', hev, hq⟩
    exact ⟨n, .normal, e', h', by rw [hev]; rfl, hq⟩
theorem w_kl {ts : List Nat} {c : C} : Cx (.kl ts c) e h R k k = Cx c (e.dels ts) h R k k := propext WC_kl
theorem w_seq {a b : C} : Cx (.seq a b) e h R k k = Cx a e h (then' (fun e' h' => Cx b e' h' R k k) R) k k := propext (WC_seq hE)
theorem w_blk {i : Nat} {c : C} : Cx (.blk i c) e h R k k = Cx c e h (inBlk i R) k k := propext WC_blk
theorem w_cond {x : Opd} {a b : C} : Cx (.cond x a b) e h R k k = WB (env e x) (fun t => WI t (Cx a e h R k k) (Cx b e h R k k) k k) k := by
  apply propext
  unfold Cx
  cases hx : env e x with
  | bool t => rw [WC_cond hx]; simp only [WB, WI]
  | _ =>
    simp only [WB, iff_false]
    rintro ⟨n, y, e', h', hev, _⟩
    simp [evC, hx] at hev
theorem w_loop {c : C} : Cx (.loop c) e h R k k = Cx c e h (then' (fun e' h' => Cx (.loop c) e' h' R k k) R) k k := propext (WC_loop hE)
theorem w_loopb {c d : C} (hd : d = c) : Cx (.loop c) e h R k k = Cx d e h (then' (fun e' h' => Cx (.loop c) e' h' R k k) R) k k := by subst hd; exact w_loop
theorem del_eq (e : Env) (t : Nat) : e.del t = e.filter fun x => x.1 != t := by
  induction e with
  | nil => rfl
  | cons x e ih =>
    obtain ⟨u, v⟩ := x
    simp only [Env.del, List.filter_cons, ih]
    by_cases h : u = t <;> simp [h]
theorem dels_eq : ∀ (ts : List Nat) (e : Env), e.dels ts = e.filter fun x => !ts.contains x.1
  | [], e => by
    simp only [Env.dels, List.contains_nil, Bool.not_false]
    exact (List.filter_eq_self.2 (fun _ _ => rfl)).symm
  | t :: ts, e => by
    rw [Env.dels, dels_eq ts, del_eq, List.filter_filter]
    congr 1
    funext x
    by_cases h : x.1 = t <;> simp [h]
theorem dels_dels (e : Env) (ts : List Nat) : (e.dels ts).dels ts = e.dels ts := by
  rw [dels_eq, dels_eq, List.filter_filter]; simp
/-- At a loop's head the dead slots go. -/
theorem w_loopn {c c' : C} {ts : List Nat} (hc : c = .kl ts c') : Cx (.loop c) e h R k k = Cx (.loop c) (e.dels ts) h R k k := by
  subst hc
  rw [w_loop, w_loop (e := e.dels ts), w_kl, w_kl, dels_dels]
theorem then_n {K : Env → AH → Prop} : then' K R .normal e h = K e h := rfl
theorem then_e {K : Env → AH → Prop} {i : Nat} : then' K R (.exit i) e h = R (.exit i) e h := rfl
theorem then_r {K : Env → AH → Prop} : then' K R .ret e h = R .ret e h := rfl
theorem blk_n {i : Nat} : inBlk i R .normal e h = R .normal e h := rfl
theorem blk_r {i : Nat} : inBlk i R .ret e h = R .ret e h := rfl
theorem blk_e {i j : Nat} : inBlk i R (.exit j) e h = WI (j == i) (R .normal e h) (R (.exit j) e h) k k := by simp [inBlk, WI]

theorem w_nil : Rx [] e h Q k k = Q e h := propext WR_nil
def WOp (d : Option Nat) (op : AOp) (is : List I) (e : Env) (h : AH) (Q : Env → AH → Prop) (_ : Tag is) (_ : Tag Q) : Prop := match op with
  | .call f xs => S f (xs.map (env e)) h (fun v h' => Rx is (put e d v) h' Q k k) k
  | .callv x xs => WF (env e x) (fun f cap => S f (xs.map (env e) ++ cap) h (fun v h' => Rx is (put e d v) h' Q k k) k) k
  | op => Ox (evOp noCall (env e) h op) (fun v h' => Rx is (put e d v) h' Q k k) k
theorem w_op {d : Option Nat} {op : AOp} {is : List I} : Rx (⟨d, op, none⟩ :: is) e h Q k k = WOp d op is e h Q k k := by
  apply propext
  unfold Rx
  cases op <;> first
    | exact WR_op rfl
    | exact WR_call hE
    | (rename_i x xs
       simp only [WOp]
       cases hx : env e x with
       | fn f cap => rw [WR_callv hE hx]; rfl
       | _ =>
         simp only [WF, iff_false]
         rintro ⟨n, e', h', hev, _⟩
         simp [evR, evI, evOp, hx] at hev)
/-- A guard: heard, not heard, or on what was not done. -/
def WG (v : AV) (K : Bool → Prop) (A : Prop) (_ : Tag K) (_ : Tag A) : Prop := match v with
  | .bool t => K t
  | .tup [] => A
  | _ => False
theorem WG_bool {b : Bool} {K : Bool → Prop} {A : Prop} : WG (.bool b) K A k k = WB (.bool b) K k := rfl
theorem WG_skp {K : Bool → Prop} {A : Prop} : WG (.tup []) K A k k = A := rfl
theorem w_grd {d : Option Nat} {op : AOp} {is : List I} {t : Nat} {want : Bool} : Rx (⟨d, op, some (t, want)⟩ :: is) e h Q k k = WG (e.get t) (fun b => WI (b == want) (Rx (⟨d, op, none⟩ :: is) e h Q k k) (Rx is (put e d (.tup [])) h Q k k) k k) (Rx is (put e d (.tup [])) h Q k k) k k := by
  apply propext
  unfold Rx
  have bad : (∀ b, e.get t ≠ .bool b) → e.get t ≠ .tup [] → ¬ WR T E (⟨d, op, some (t, want)⟩ :: is) e h Q := by
    rintro h1 h2 ⟨n, e', h', hev, _⟩
    simp only [evR, evI] at hev
    cases hev
  cases hx : e.get t with
  | bool b => rw [WR_grd hx]; simp only [WG, WI, beq_iff_eq]
  | tup l =>
    cases l with
    | nil => rw [WR_grd0 hx]; rfl
    | cons a l =>
      simp only [WG, iff_false]
      exact bad (by rw [hx]; intro b; simp) (by rw [hx]; simp)
  | _ =>
    simp only [WG, iff_false]
    exact bad (by rw [hx]; intro b; simp) (by rw [hx]; simp)

theorem O_some {v : AV} {h : AH} {K : AV → AH → Prop} : Ox (some (v, h)) K k = K v h := rfl
theorem O_map {β : Type} {f : β → AV × AH} {b : β} {K : AV → AH → Prop} : Ox ((some b).map f) K k = K (f b).1 (f b).2 := rfl
theorem O_if {c : Prop} [Decidable c] {x : Option (AV × AH)} {K : AV → AH → Prop} : Ox (if c then x else none) K k = (c ∧ Ox x K k) := by
  unfold Ox; split <;> simp [*, WO]
theorem O_mapif {β : Type} {c : Prop} [Decidable c] {f : β → AV × AH} {x : Option β} {K : AV → AH → Prop} : Ox ((if c then x else none).map f) K k = (c ∧ Ox (x.map f) K k) := by
  unfold Ox; split <;> simp [*, WO]
/-- Into a function of the table. -/
theorem S_of {f : Nat} {xs : List AV} {post : AV → AH → Prop} {fi : FI} (hEf : E f = none) (hT : T f = some fi)
    (hw : Cx fi.body (Env.init 0 xs) h (fun x e' h' => (x = .normal ∨ x = .ret) ∧ ∃ r, resV e' h' fi.res = some r ∧ post r h') k k) : S f xs h post k := Spec_of hEf hT hw
theorem S_ext {f : Nat} {xs : List AV} {post : AV → AH → Prop} {G : List AV → AH → Option AV} {r : AV} (hEf : E f = some (pureX G)) (hG : G xs h = some r) (hp : post r h) : S f xs h post k := Spec_ext hEf 0 (by simp [pureX, hG]) hp
theorem Cx_mono {c : C} {R' : X → Env → AH → Prop} (hs : Cx c e h R k k) (hp : ∀ x e' h', R x e' h' → R' x e' h') : Cx c e h R' k k := WC.mono hs hp
end

/- The rules above, in bundles. -/
theorem zP : type_of% @w_kl ∧ type_of% @w_seq ∧ type_of% @w_reg ∧ type_of% @w_drw0 ∧ type_of% @w_blk ∧ type_of% @then_n ∧ type_of% @then_e ∧ type_of% @then_r ∧ type_of% @blk_n ∧
   type_of% @blk_e ∧ type_of% @blk_r ∧ type_of% @List.map_cons.{0,0} ∧ type_of% @List.map_nil.{0,0} := ⟨@w_kl, @w_seq, @w_reg, @w_drw0, @w_blk, @then_n, @then_e, @then_r, @blk_n,
   @blk_e, @blk_r, @List.map_cons.{0,0}, @List.map_nil.{0,0}⟩
theorem zW : type_of% @w_op ∧ type_of% @w_nil ∧ type_of% @w_cond ∧ type_of% @w_skip ∧ type_of% @w_exit ∧ type_of% @w_ret ∧ type_of% @w_grd ∧ type_of% @WG_bool ∧ type_of% @WG_skp ∧
   type_of% @WB_true ∧ type_of% @WB_false ∧ type_of% @WI_true ∧ type_of% @WI_false ∧ type_of% @WF_fn ∧ type_of% @beq_tt ∧ type_of% @beq_ff ∧ type_of% @beq_tf ∧ type_of% @beq_ft ∧
   type_of% @O_some ∧ type_of% @O_if ∧ type_of% @O_mapif ∧ type_of% @O_map ∧ type_of% @List.nil_append.{0} ∧ type_of% @List.cons_append.{0} ∧ type_of% @List.append_nil.{0} ∧
   type_of% @if_true.{1} ∧ type_of% @if_false.{1} ∧ type_of% @Option.map_some.{0,0} ∧ type_of% @Option.map_none.{0,0} ∧ type_of% @Option.bind_some.{0,0} ∧ type_of%
   @Option.some.injEq.{0} ∧ type_of% @Bool.not_true ∧ type_of% @Bool.not_false ∧ type_of% @Bool.false_eq_true ∧ type_of% @Bool.true_eq_false ∧ type_of% @decide_true ∧ type_of%
   @decide_false ∧ type_of% @true_and ∧ type_of% @and_true ∧ type_of% @false_and ∧ type_of% @and_false ∧ type_of% @true_or ∧ type_of% @or_true ∧ type_of% @false_or ∧ type_of%
   @or_false ∧ type_of% @Int.lt_irrefl ∧ type_of% @List.getElem?_cons_zero.{0} ∧ type_of% @List.getElem?_cons_succ.{0} ∧ type_of% @exists_eq_left'.{1} ∧ type_of%
   @List.length_cons.{0} ∧ type_of% @List.length_nil.{0} ∧ type_of% @List.all_cons.{0} ∧ type_of% @List.all_nil.{0} ∧ type_of% @List.take_succ_cons.{0} ∧ type_of%
   @List.take_zero.{0} ∧ type_of% @List.take_nil.{0} ∧ type_of% @List.drop_succ_cons.{0} ∧ type_of% @List.drop_zero.{0} ∧ type_of% @List.drop_nil.{0} ∧ type_of% @Bool.and_true ∧
   type_of% @Bool.true_and ∧ type_of% @Bool.false_and ∧ type_of% @Bool.and_false ∧ type_of% @Bool.and_self ∧ type_of% @Nat.le_refl ∧ type_of% @and_self ∧ type_of% @Nat.zero_add ∧
   type_of% @Int.toNat_natCast ∧ type_of% @Int.natCast_nonneg := ⟨@w_op, @w_nil, @w_cond, @w_skip, @w_exit, @w_ret, @w_grd, @WG_bool, @WG_skp, @WB_true, @WB_false, @WI_true,
   @WI_false, @WF_fn, @beq_tt, @beq_ff, @beq_tf, @beq_ft, @O_some, @O_if, @O_mapif, @O_map, @List.nil_append.{0}, @List.cons_append.{0}, @List.append_nil.{0}, @if_true.{1},
   @if_false.{1}, @Option.map_some.{0,0}, @Option.map_none.{0,0}, @Option.bind_some.{0,0}, @Option.some.injEq.{0}, @Bool.not_true, @Bool.not_false, @Bool.false_eq_true,
   @Bool.true_eq_false, @decide_true, @decide_false, @true_and, @and_true, @false_and, @and_false, @true_or, @or_true, @false_or, @or_false, @Int.lt_irrefl,
   @List.getElem?_cons_zero.{0}, @List.getElem?_cons_succ.{0}, @exists_eq_left'.{1}, @List.length_cons.{0}, @List.length_nil.{0}, @List.all_cons.{0}, @List.all_nil.{0},
   @List.take_succ_cons.{0}, @List.take_zero.{0}, @List.take_nil.{0}, @List.drop_succ_cons.{0}, @List.drop_zero.{0}, @List.drop_nil.{0}, @Bool.and_true, @Bool.true_and,
   @Bool.false_and, @Bool.and_false, @Bool.and_self, @Nat.le_refl, @and_self, @Nat.zero_add, @Int.toNat_natCast, @Int.natCast_nonneg⟩
theorem zL : type_of% @true_and ∧ type_of% @Nat.le_refl ∧ type_of% @List.length_append.{0} ∧ type_of% @List.length_cons.{0} ∧ type_of% @List.length_nil.{0} ∧ type_of%
   @List.length_map.{0,0} ∧ type_of% @List.length_set.{0} ∧ type_of% @List.length_take.{0} ∧ type_of% @List.length_drop.{0} := ⟨@true_and, @Nat.le_refl, @List.length_append.{0},
   @List.length_cons.{0}, @List.length_nil.{0}, @List.length_map.{0,0}, @List.length_set.{0}, @List.length_take.{0}, @List.length_drop.{0}⟩
end Go.Proofs.YtnamhjdfegohbaaGreatDoor.Ab

/- FROM a function's answer in the abstract machine to what a row wants. -/
namespace Go.Proofs.YtnamhjdfegohbaaGreatDoor.Ab
open Go Go.RowKit Go.ChangeShapes

theorem keptBut_below {W W' : World} (hb : Go.RowKit.Below W.heap.size W W') (may : MemPlace → Prop) : W.keptBut W' may := by
  refine ⟨hb.os, hb.output, fun i hi => ?_⟩
  rw [hb.block i hi]
  cases W.heap[i]? with
  | none => trivial
  | some o =>
    cases o <;> first
      | exact ⟨rfl, rfl, rfl, fun _ _ => rfl⟩
      | exact .inr ⟨rfl, rfl⟩
      | rfl

theorem frozen_below {W W' : World} (hb : Go.RowKit.Below W.heap.size W W') (a : Addr) (ha : a.block < W.heap.size) : W'.frozen? a = W.frozen? a := by
  simp only [World.frozen?, hb.block a.block ha]

section
variable {H : Type} {enc : TypeId × Value → H} {P : Program}
/-- What a call leaves that turns nothing old. -/
theorem post_below {f : Func} {s : ChangeSpec} {apart fresh handsOn again : Bool} {W W' : World} {args : Array Value} {v : Value} {ds gs : List (DataW H)} {before pa pv : List MemPlace}
    (hW : DataW.Whole enc P f.params.toList s.vars apart W args.toList ds gs before)
    (hres : ∀ (b : Nat) (sp : Nat → Bool) (hd : Bool), DataW.TrodAll enc P W' b sp hd f.resultTypes.toList (v.resultList f.resultTypes.size) (s.fn H (ds ++ gs)).results [])
    (hargs : ∀ sp : Nat → Bool, (∀ p ∈ before, sp p.block = true) → DataW.TrodAll enc P W' 0 sp true f.params.toList args.toList (s.fn H (ds ++ gs)).args pa)
    (hvars : ∀ sp : Nat → Bool, (∀ p ∈ before, sp p.block = true) → DataW.TrodVars enc P W' sp s.vars (s.fn H (ds ++ gs)).vars pv)
    (hps : before = pa ++ pv) (hb : Go.RowKit.Below W.heap.size W W')
    (hok : ∀ (j : Nat) (t : TypeId) (r : Value), f.resultTypes[j]? = some t → (v.resultList f.resultTypes.size)[j]? = some r → Value.okWide P W' .any 0 t r) :
    s.post enc P f apart fresh handsOn again W args v W' := by
  have hold : ∀ p ∈ before, (fun b => decide (b < W.heap.size)) p.block = true := fun p hp => by simpa using hW.lt p hp
  have hlt := hW.lt
  refine ⟨ds, gs, before, [], pa, pv, hW, hres _ _ _, hargs _ hold, hvars _ hold, World.keptBut_mono (fun p hp => ⟨hp, ?_⟩) (keptBut_below hb (· ∈ before)), fun _ => ?_⟩
  · rw [hps, List.mem_append] at hp
    exact Or.inr hp
  · obtain ⟨_, _, _, _, _, hz, hn⟩ := hW
    refine ⟨hok, _, _, ([] ++ pa) ++ pv, ⟨[] ++ pa, pv, trodAll_append (hargs _ (fun _ _ => rfl)) (hres _ _ _), hvars _ (fun _ _ => rfl), rfl, ?_, ?_⟩, ?_⟩
    · intro b off hp
      have hin : MemPlace.cell b off ∈ before := by rw [hps]; simpa using hp
      rw [frozen_below hb _ (show b < W.heap.size from hlt _ hin)]
      exact hz b off (by rw [hps]; simpa using hp)
    · intro ha
      have := hn ha
      rw [hps] at this
      simpa using this
    · intro p hp _
      rw [hps]
      simpa using hp
end

/-- A law that answers true. -/
theorem law_calls {P : Program} {F : Nat → Nat} (hs : ∀ n, Sound P F (evF T E n)) {f : Nat} {xs : List AV} {h : AH} (hS : S f xs h (fun r _ => r = .bool true) k) {m : Emb} {W : World} {args : Array Value} (hr : RelH F W.heap.size m h W) (hx : RelL F m xs args.toList) :
    Calls P (F f) args W fun e w' => e = .returned (.bool true) ∧ Go.RowKit.Below W.heap.size W w' := by
  obtain ⟨n, r, h', hev, rfl⟩ := hS
  obtain ⟨_, hc⟩ := hs n f xs h _ h' hev
  refine (hc W.heap.size m W args hr hx).mono ?_
  rintro e w' ⟨v, m', rfl, hv, hst⟩
  exact ⟨by rw [rel_bool hv], hst.below (Nat.le_refl _)⟩

/-- Nothing is known of the heap. -/
theorem rel_nothing (F : Nat → Nat) (W : World) : RelH F W.heap.size ⟨fun _ _ => none, fun _ => none⟩ [] W where
  rowc := by intro c k p h; cases h
  objc := by intro c b h; cases h
  ob := by intro c o h; simp at h
  inj := by intro c k p c' k' p' h; cases h
  injo := by intro c c' b h; cases h
  injr := by intro c k p c' b h; cases h
  ltr := by intro c k p h; cases h
  lto := by intro c b h; cases h
  vers := by intro c cs ver fl ro k p h; simp at h
  le := Nat.le_refl _
end Go.Proofs.YtnamhjdfegohbaaGreatDoor.Ab

/- ARGUMENTS of a law: how they stand in the abstract machine's first state, and that they read as before behind the call. -/
namespace Go.Proofs.YtnamhjdfegohbaaGreatDoor.Ab
open Go Go.RowKit Go.ChangeShapes Go.WideShapes Go.Deep

/-- One row that is read alone. -/
def emb1 (p : Place) : Emb := ⟨fun c k => if c = 0 ∧ k = 0 then some p else none, fun _ => none⟩
section
variable {H : Type} {enc : TypeId × Value → H} {P : Program}
/-- All arguments read behind the call as before. -/
theorem trodAll_stays (hl : laidOutB P = true) {W W' : World} (hb : Go.RowKit.Below W.heap.size W W') {sp : Nat → Bool} : ∀ {ts : List TypeId} {vs : List Value} {ds : List (DataW H)} {ps : List MemPlace},
    (∀ t ∈ ts, P.readableRec t = true ∧ t < P.types.size) → DataW.TrodAll enc P W 0 (fun _ => true) true ts vs ds ps → (∀ p ∈ ps, p.block < W.heap.size) → (∀ p ∈ ps, sp p.block = true) → DataW.TrodAll enc P W' 0 sp true ts vs ds ps
  | [], [], [], ps, _, h, _, _ => h
  | t :: ts, v :: vs, d :: ds, ps, ht, h, hlt, hsp => by
    obtain ⟨p, q, h1, h2, rfl⟩ := h
    obtain ⟨ht1, ht2⟩ := ht t (by simp)
    exact ⟨p, q, WideElems.Trod_stays hl ht1 ht2 h1 (fun x hx => hb.same (hlt x (by simp [hx]))) (fun x hx => hsp x (by simp [hx])), trodAll_stays hl hb (fun t' ht' => ht t' (by simp [ht'])) h2 (fun x hx => hlt x (by simp [hx])) (fun x hx => hsp x (by simp [hx])), rfl⟩
  | [], _ :: _, _, _, _, h, _, _ => by cases h
  | [], [], _ :: _, _, _, h, _, _ => by cases h
  | _ :: _, [], _, _, _, h, _, _ => by cases h
  | _ :: _, _ :: _, [], _, _, h, _, _ => by cases h
end
end Go.Proofs.YtnamhjdfegohbaaGreatDoor.Ab

/- THE HEAP, as specs tell of it: what is kept, slices that are one's own, slices that are read. -/
namespace Go.Proofs.YtnamhjdfegohbaaGreatDoor.Ab
open Go
set_option maxRecDepth 100000
set_option maxHeartbeats 4000000

/-- All that was there is there as it was. -/
def Pre (h h' : AH) : Prop := h.length ≤ h'.length ∧ ∀ c, c < h.length → h'[c]? = h[c]?
theorem Pre.refl (h : AH) : Pre h h := ⟨Nat.le_refl _, fun _ _ => rfl⟩
theorem Pre.trans {a b c : AH} (x : Pre a b) (y : Pre b c) : Pre a c := ⟨Nat.le_trans x.1 y.1, fun i hi => by rw [y.2 i (Nat.lt_of_lt_of_le hi x.1), x.2 i hi]⟩
theorem Pre.push (h : AH) (o : AO) : Pre h (h ++ [o]) := ⟨by simp, fun c hc => List.getElem?_append_left hc⟩
theorem Pre.set {h0 h : AH} {c : Nat} {o : AO} (x : Pre h0 h) (hc : h0.length ≤ c) : Pre h0 (h.set c o) := ⟨by simpa using x.1, fun i hi => by rw [List.getElem?_set]; rw [if_neg (by omega)]; exact x.2 i hi⟩

/-- A slice that holds cs (cells). -/
def Sl (h : AH) (esz : Nat) (v : AV) (n : Nat) (cs : List AV) : Prop := match v with
  | .nilS | .empS => n = 0 ∧ cs = []
  | .slice c k off len e => e = esz ∧ len = n ∧ n * esz = cs.length ∧ rdRow h c k off (n * esz) = some cs
  | _ => False
theorem rdRow_pre {h h' : AH} (hp : Pre h h') {c k off n : Nat} {cs : List AV} (hr : rdRow h c k off n = some cs) : rdRow h' c k off n = some cs := by
  have hlt : c < h.length := by
    unfold rdRow at hr; split at hr
    · rename_i hh; exact (List.getElem?_eq_some_iff.1 hh).1
    · cases hr
  unfold rdRow at hr ⊢
  rw [hp.2 c hlt]; exact hr
theorem Sl.pre {h h' : AH} (hp : Pre h h') {esz : Nat} {v : AV} {n : Nat} {cs : List AV} (hs : Sl h esz v n cs) : Sl h' esz v n cs := by
  cases v <;> simp only [Sl] at hs ⊢ <;> first
    | exact hs
    | (obtain ⟨h1, h2, h3, h4⟩ := hs; exact ⟨h1, h2, h3, rdRow_pre hp h4⟩)

/-- A slice whose row was made behind h0, and which ends where the row ends. -/
def Own (esz : Nat) (h0 h : AH) (v : AV) (n : Nat) (cs : List AV) : Prop := match v with
  | .nilS | .empS => n = 0 ∧ cs = []
  | .slice c k off len e => e = esz ∧ len = n ∧ n * esz = cs.length ∧ h0.length ≤ c ∧ ∃ cells fl, h[c]? = some (.row cells k fl false) ∧ fl ≤ k ∧ off + n * esz = cells.length ∧ cells.drop off = cs
  | _ => False
theorem Own.sl {esz : Nat} {h0 h : AH} {v : AV} {n : Nat} {cs : List AV} (ho : Own esz h0 h v n cs) : Sl h esz v n cs := by
  cases v <;> simp only [Own, Sl] at ho ⊢ <;> first
    | exact ho
    | (obtain ⟨h1, h2, h3, h4, cells, fl, h5, h6, h7, h8⟩ := ho
       refine ⟨h1, h2, h3, ?_⟩
       unfold rdRow
       rw [h5]
       simp only
       rw [if_pos ⟨h6, Nat.le_refl _, by omega⟩, h8, List.take_of_length_le (by omega)])
theorem Own.pre {esz : Nat} {h0 h h' : AH} (hp : Pre h h') {v : AV} {n : Nat} {cs : List AV} (ho : Own esz h0 h v n cs) : Own esz h0 h' v n cs := by
  cases v <;> simp only [Own] at ho ⊢ <;> first
    | exact ho
    | (obtain ⟨h1, h2, h3, h4, cells, fl, h5, h6⟩ := ho
       exact ⟨h1, h2, h3, h4, cells, fl, by rw [hp.2 _ (List.getElem?_eq_some_iff.1 h5).1]; exact h5, h6⟩)

/-- append to a slice of one's own. -/
theorem ap_own {esz : Nat} {h0 h : AH} {v : AV} {n : Nat} {cs : List AV} (ho : Own esz h0 h v n cs) (hp : Pre h0 h) {q : Nat} {vs : List AV} (hq : q * esz = vs.length) (hsc : vs.all AV.sc = true) (hroom : n + q ≤ room) :
    ∃ v' h', apRow h esz v q vs = some (v', h') ∧ Own esz h0 h' v' (n + q) (cs ++ vs) ∧ Pre h0 h' := by
  have fresh : n = 0 → cs = [] → q ≠ 0 → ∃ v' h', ((newRow h vs).map fun (c, h') => (AV.slice c 0 0 q esz, h')) = some (v', h') ∧ Own esz h0 h' v' (n + q) (cs ++ vs) ∧ Pre h0 h' := by
    rintro rfl rfl _
    refine ⟨.slice h.length 0 0 q esz, h ++ [.row vs 0 0 false], by simp only [newRow, hsc, if_true, Option.map_some], ?_, hp.trans (Pre.push _ _)⟩
    simp only [Own, List.nil_append, Nat.zero_add]
    exact ⟨trivial, trivial, hq, hp.1, vs, 0, by simp, Nat.le_refl _, by omega, rfl⟩
  cases v <;> simp only [Own] at ho <;> try (exact ho.elim)
  · obtain ⟨rfl, rfl⟩ := ho
    simp only [apRow, apRow1]
    by_cases h0 : q = 0
    · subst h0
      have : vs = [] := List.eq_nil_of_length_eq_zero (by omega)
      subst this
      exact ⟨_, _, by rw [if_pos rfl], by simp [Own], hp⟩
    · rw [if_neg h0, if_pos (by omega)]; exact fresh rfl rfl h0
  · obtain ⟨rfl, rfl⟩ := ho
    simp only [apRow, apRow1]
    by_cases h0 : q = 0
    · subst h0
      have : vs = [] := List.eq_nil_of_length_eq_zero (by omega)
      subst this
      exact ⟨_, _, by rw [if_pos rfl], by simp [Own], hp⟩
    · rw [if_neg h0, if_pos (by omega)]; exact fresh rfl rfl h0
  · rename_i c k off len e
    obtain ⟨rfl, rfl, h3, h4, cells, fl, h5, h6, h7, h8⟩ := ho
    have hlt := (List.getElem?_eq_some_iff.1 h5).1
    simp only [apRow, h5]
    rw [if_pos (by exact ⟨trivial, trivial, h7, h6, hsc, hroom⟩)]
    refine ⟨_, _, rfl, ?_, hp.set h4⟩
    simp only [Own]
    refine ⟨trivial, trivial, by rw [Nat.add_mul, h3, hq, List.length_append], h4, cells ++ vs, fl, by rw [List.getElem?_set, if_pos rfl, if_pos hlt], by omega, ?_, ?_⟩
    · rw [Nat.add_mul, List.length_append]; omega
    · rw [List.drop_append_of_le_length (by omega), h8]
theorem rdRow_push (h : AH) (cs : List AV) (ro : Bool) {n : Nat} (hn : n = cs.length) : rdRow (h ++ [.row cs 0 0 ro]) h.length 0 0 n = some cs := by
  subst hn
  unfold rdRow
  rw [List.getElem?_append_right (Nat.le_refl _)]
  simp
/-- The row that was made last. -/
theorem rd_last (h : AH) (cs : List AV) (ro : Bool) (off n : Nat) : rdRow (h ++ [.row cs 0 0 ro]) h.length 0 off n = if off + n ≤ cs.length then some ((cs.drop off).take n) else none := by
  unfold rdRow
  rw [List.getElem?_append_right (Nat.le_refl _)]
  simp
end Go.Proofs.YtnamhjdfegohbaaGreatDoor.Ab

/- REGIONS of drawn order with reads beside: the states between are looked at. -/
namespace Go.Proofs.YtnamhjdfegohbaaGreatDoor.Ab
open Go

/-- Operation by operation; the states before each are collected. -/
def Tr : List I → List (Env × AH) → Env → AH → (List (Env × AH) → Env → AH → Prop) → Prop
  | [], acc, e, h, Q => Q acc e h
  | i :: is, acc, e, h, Q => Rx [i] e h (fun e' h' => Tr is (acc ++ [(e, h)]) e' h' Q) k k

theorem Tr_runs : ∀ (is : List I) (acc : List (Env × AH)) (e : Env) (h : AH) (Q : List (Env × AH) → Env → AH → Prop), Tr is acc e h Q → ∃ n e' h' tr, evR (evF T E n) is e h = some (e', h') ∧ tr.length = is.length ∧
    (∀ i s, tr[i]? = some s → stateAt (evF T E n) is i e h = some s) ∧ Q (acc ++ tr) e' h'
  | [], acc, e, h, Q, hq => ⟨0, e, h, [], rfl, rfl, fun i s hs => by simp at hs, by simpa [Tr] using hq⟩
  | i :: is, acc, e, h, Q, hq => by
    simp only [Tr, Rx] at hq
    obtain ⟨n1, e1, h1, hev1, hq⟩ := hq
    obtain ⟨n2, e', h', tr, hev2, hlen, hst, hQ⟩ := Tr_runs is _ e1 h1 Q hq
    simp only [evR] at hev1
    split at hev1
    case h_2 => cases hev1
    rename_i e1' h1' hi
    simp only [Option.some.injEq, Prod.mk.injEq] at hev1
    obtain ⟨rfl, rfl⟩ := hev1
    have hi' := evI_mono (evF_mono (T := T) hE (Nat.le_max_left n1 n2)) hi
    refine ⟨max n1 n2, e', h', (e, h) :: tr, ?_, by simp [hlen], ?_, by simpa using hQ⟩
    · simp only [evR, hi']
      exact evR_mono (evF_mono hE (Nat.le_max_right n1 n2)) hev2
    · intro j s hs
      cases j with
      | zero => simp at hs; subst hs; simp [stateAt, evR]
      | succ j =>
        simp at hs
        have := evR_mono (evF_mono (T := T) hE (Nat.le_max_right n1 n2)) (hst j s hs)
        simp only [stateAt, List.take_succ_cons, evR, hi']
        exact this

/-- What a read sees does not turn by another operation. -/
def StT (is : List I) (tr : List (Env × AH)) (p : Nat × Nat) : Prop := match is[p.1]?, tr[p.1]?, tr[p.2]?, tr[p.2 + 1]? with
  | some o, some s1, some s2, some s3 => (evOp noCall (env s1.1) s2.2 o.op).map (·.1) = (evOp noCall (env s1.1) s3.2 o.op).map (·.1)
  | _, _, _, _ => False
def StA (is : List I) (tr : List (Env × AH)) : List (Nat × Nat) → Prop
  | [] => True
  | p :: ps => (p.1 = p.2 ∨ StT is tr p) ∧ StA is tr ps
theorem StA_all {is : List I} {tr : List (Env × AH)} : ∀ {ps : List (Nat × Nat)}, StA is tr ps → ∀ p ∈ ps, p.1 = p.2 ∨ StT is tr p
  | [], _, _, h => by cases h
  | q :: ps, hs, p, h => by
    rcases List.mem_cons.1 h with rfl | h
    · exact hs.1
    · exact StA_all hs.2 p h
theorem w_drw {is : List I} {ps : List (Nat × Nat)} {e : Env} {h : AH} {R : X → Env → AH → Prop} (ht : Tr is [] e h fun tr e' h' => StA is (tr ++ [(e', h')]) ps ∧ R .normal e' h') : Cx (.drw is ps) e h R k k := by
  obtain ⟨n, e', h', tr, hev, hlen, hst, hstab, hR⟩ := Tr_runs is [] e h _ ht
  refine ⟨n, .normal, e', h', ?_, hR⟩
  simp only [evC]
  have : evDraw (evF T E n) is ps e h = some (e', h') := by
    unfold evDraw
    rw [if_pos]
    · exact hev
    · intro p hp
      rcases StA_all hstab p hp with hpe | hs
      · exact .inl hpe
      refine .inr ?_
      intro o e1 h1 e2 h2 e3 h3 k0 k1 k2 k3
      simp only [List.nil_append] at hs
      have all : ∀ i s, (tr ++ [(e', h')])[i]? = some s → stateAt (evF T E n) is i e h = some s := by
        intro i s hs
        by_cases hi : i < tr.length
        · rw [List.getElem?_append_left hi] at hs; exact hst i s hs
        · have hie : i = tr.length := by
            by_cases hie : i = tr.length
            · exact hie
            · rw [List.getElem?_eq_none (by simp; omega)] at hs; cases hs
          subst hie
          rw [List.getElem?_append_right (Nat.le_refl _)] at hs
          simp at hs
          subst hs
          rw [hlen]; simp [stateAt, hev]
      unfold StT at hs
      split at hs
      · rename_i o' s1 s2 s3 g0 g1 g2 g3
        rw [k0] at g0; cases g0
        have q1 := all _ _ g1; have q2 := all _ _ g2; have q3 := all _ _ g3
        rw [k1] at q1; rw [k2] at q2; rw [k3] at q3
        cases q1; cases q2; cases q3
        exact hs
      · exact hs.elim
  rw [this]; rfl
end Go.Proofs.YtnamhjdfegohbaaGreatDoor.Ab

/- QUICK lemmas for the simplifier: tests that the context decides, wraps that do nothing, answers as equations. -/
namespace Go.Proofs.YtnamhjdfegohbaaGreatDoor.Ab
open Go
set_option maxRecDepth 100000
set_option maxHeartbeats 4000000

theorem lt_t {a b : Int} (h : a < b) : (a < b) = True := eq_true h
theorem lt_f {a b : Int} (h : b ≤ a) : (a < b) = False := eq_false (by omega)
theorem le_t {a b : Int} (h : a ≤ b) : (a ≤ b) = True := eq_true h
theorem le_f {a b : Int} (h : b < a) : (a ≤ b) = False := eq_false (by omega)
theorem gt_t {a b : Int} (h : b < a) : (a > b) = True := eq_true h
theorem gt_f {a b : Int} (h : a ≤ b) : (a > b) = False := eq_false (by omega)
theorem ge_t {a b : Int} (h : b ≤ a) : (a ≥ b) = True := eq_true h
theorem ge_f {a b : Int} (h : a < b) : (a ≥ b) = False := eq_false (by omega)
theorem beq_t {a b : Int} (h : a = b) : (a == b) = true := by simp [h]
theorem beq_f {a b : Int} (h : a ≠ b) : (a == b) = false := by simp [h]
theorem bne_t {a b : Int} (h : a ≠ b) : (a != b) = true := by simp [h]
theorem bne_f {a b : Int} (h : a = b) : (a != b) = false := by simp [h]
theorem wrap_i {n : Int} (h : -9223372036854775808 ≤ n ∧ n ≤ 9223372036854775807) : IntKind.i64.wrap n = n := by rw [IntKind.wrap_i64]; omega
theorem u8c (b c : UInt8) : ((b.toNat : Int) == (c.toNat : Int)) = (b == c) := by
  by_cases h : b = c
  · subst h; simp
  · have : ¬ ((b.toNat : Int) = (c.toNat : Int)) := fun hh => h (UInt8.toNat_inj.1 (by omega))
    rw [beq_eq_false_iff_ne.2 h, beq_eq_false_iff_ne.2 this]
theorem u8n (b c : UInt8) : ((b.toNat : Int) != (c.toNat : Int)) = !(b == c) := by rw [bne, u8c]
theorem u8T (b : UInt8) : ((b.toNat : Int) == 84) = (b == 84) := u8c b 84
theorem u8F (b : UInt8) : ((b.toNat : Int) == 70) = (b == 70) := u8c b 70
theorem u8D (b : UInt8) : ((b.toNat : Int) == 46) = (b == 46) := u8c b 46
theorem u8nT (b : UInt8) : ((b.toNat : Int) != 84) = !(b == 84) := u8n b 84
theorem u8nF (b : UInt8) : ((b.toNat : Int) != 70) = !(b == 70) := u8n b 70
theorem u8nD (b : UInt8) : ((b.toNat : Int) != 46) = !(b == 46) := u8n b 46
theorem rd_app {h l : AH} {c k off n : Nat} (hc : c < h.length) : rdRow (h ++ l) c k off n = rdRow h c k off n := by
  unfold rdRow; rw [List.getElem?_append_left hc]
theorem wr_last {h : AH} {cs : List AV} {ver fl k off : Nat} {vs : List AV} : wrRow (h ++ [.row cs ver fl false]) h.length k off vs = if k = ver ∧ fl ≤ ver ∧ off + vs.length ≤ cs.length ∧ vs.all AV.sc = true then some (h ++ [.row (splice cs off vs) ver ver false]) else none := by
  unfold wrRow
  rw [List.getElem?_append_right (Nat.le_refl _)]
  simp only [Nat.sub_self, List.getElem?_cons_zero]
  split
  · rw [List.set_append_right _ _ (Nat.le_refl _)]; simp
  · rfl
theorem wr_lasT {h : AH} {cs : List AV} {ver fl k off : Nat} {vs : List AV} (hc : k = ver ∧ fl ≤ ver ∧ off + vs.length ≤ cs.length) : wrRow (h ++ [.row cs ver fl false]) h.length k off vs = if vs.all AV.sc = true then some (h ++ [.row (splice cs off vs) ver ver false]) else none := by
  rw [wr_last]
  by_cases hs : vs.all AV.sc = true
  · rw [if_pos ⟨hc.1, hc.2.1, hc.2.2, hs⟩, if_pos hs]
  · rw [if_neg (fun x => hs x.2.2.2), if_neg hs]
theorem rd_lasT {h : AH} {cs : List AV} {ver fl k off n : Nat} {ro : Bool} (hc : fl ≤ k ∧ k ≤ ver ∧ off + n ≤ cs.length) : rdRow (h ++ [.row cs ver fl ro]) h.length k off n = some ((cs.drop off).take n) := by
  unfold rdRow
  rw [List.getElem?_append_right (Nat.le_refl _)]
  simp only [Nat.sub_self, List.getElem?_cons_zero]
  rw [if_pos hc]
theorem add_ok {n : Nat} {s : List UInt8} (h : n ≤ 9223372036854775807) : (if n ≤ two63 then some (AV.str s) else none) = some (AV.str s) := if_pos h
theorem wr_app {h l : AH} {c k off : Nat} {vs : List AV} (hc : c < h.length) : wrRow (h ++ l) c k off vs = (wrRow h c k off vs).map fun h' => h' ++ l := by
  unfold wrRow
  have hs : ∀ o, List.set (h ++ l) c o = List.set h c o ++ l := fun o => List.set_append_left _ _ hc
  rw [List.getElem?_append_left hc]
  simp only [hs]
  cases h[c]? with
  | none => rfl
  | some o =>
    cases o with
    | row cs ver fl ro =>
      cases ro
      · simp only
        split <;> rfl
      · rfl
    | map es => rfl
    | iter s p => rfl
    | mit a b c => rfl
theorem wr_of {h : AH} {c : Nat} {cs : List AV} {ver fl : Nat} (hr : h[c]? = some (.row cs ver fl false)) {k off : Nat} {vs : List AV} (hc : k = ver ∧ fl ≤ ver ∧ off + vs.length ≤ cs.length) : wrRow h c k off vs = if vs.all AV.sc = true then some (h.set c (.row (splice cs off vs) ver ver false)) else none := by
  unfold wrRow
  rw [hr]
  simp only
  by_cases hs : vs.all AV.sc = true
  · rw [if_pos ⟨hc.1, hc.2.1, hc.2.2, hs⟩, if_pos hs]
  · rw [if_neg (fun x => hs x.2.2.2), if_neg hs]
theorem rd_of {h : AH} {c : Nat} {cs : List AV} {ver fl : Nat} {ro : Bool} (hr : h[c]? = some (.row cs ver fl ro)) {k off n : Nat} (hc : fl ≤ k ∧ k ≤ ver ∧ off + n ≤ cs.length) : rdRow h c k off n = some ((cs.drop off).take n) := by
  unfold rdRow
  rw [hr]
  exact if_pos hc
theorem rd_set {h : AH} {c : Nat} {cs : List AV} {ver fl : Nat} {ro : Bool} {k off n : Nat} (hc : c < h.length) (hk : fl ≤ k ∧ k ≤ ver ∧ off + n ≤ cs.length) : rdRow (h.set c (.row cs ver fl ro)) c k off n = some ((cs.drop off).take n) :=
  rd_of (by rw [List.getElem?_set, if_pos rfl, if_pos hc]) hk
theorem rd_ne {h : AH} {c d : Nat} {o : AO} {k off n : Nat} (hd : c ≠ d) : rdRow (h.set c o) d k off n = rdRow h d k off n := by
  unfold rdRow
  rw [List.getElem?_set, if_neg hd]
theorem pre_last {h h2 : AH} {o : AO} (hp : Pre (h ++ [o]) h2) : h2[h.length]? = some o := by
  rw [hp.2 _ (by simp)]; simp
theorem pre_of_last {h h2 : AH} {o : AO} (hp : Pre (h ++ [o]) h2) : Pre h h2 := (Pre.push h o).trans hp
theorem pre_set_last {h h2 : AH} {o o' : AO} (hp : Pre (h ++ [o]) h2) : Pre h (h2.set h.length o') := (pre_of_last hp).set (Nat.le_refl _)
theorem pre_last_lt {h h2 : AH} {o : AO} (hp : Pre (h ++ [o]) h2) : h.length < h2.length := by have := hp.1; simp at this; omega
abbrev byL (s : List UInt8) : List AV := s.map fun b => AV.int .u8 b.toNat
theorem sc_bytes (s : List UInt8) : (s.map fun b => AV.int .u8 b.toNat).all AV.sc = true := by simp [AV.sc]
theorem bytesL_map : ∀ s : List UInt8, bytesL (s.map fun b => AV.int .u8 b.toNat) = some s
  | [] => rfl
  | b :: s => by simp only [List.map_cons, bytesL, byte1, bytesL_map s]; simp
theorem splice_one {α : Type} {l : List α} {off : Nat} {v : α} (h : off < l.length) : splice l off [v] = l.set off v := by
  unfold splice
  rw [List.set_eq_take_append_cons_drop, if_pos h]; simp
theorem splB {w : List UInt8} {i : Nat} {b : UInt8} (h : i < w.length) : splice (w.map fun b => AV.int .u8 b.toNat) (i * 1) [.int .u8 (b.toNat : Int)] = (w.set i b).map fun b => AV.int .u8 b.toNat := by
  rw [Nat.mul_one, splice_one (by simpa using h), List.map_set]
theorem splD {w : List UInt8} {i : Nat} (h : i < w.length) : splice (w.map fun b => AV.int .u8 b.toNat) (i * 1) [.int .u8 46] = (w.set i 46).map fun b => AV.int .u8 b.toNat := splB (b := 46) h
theorem tkB {w : List UInt8} {i : Nat} (h : i < w.length) : ((w.map fun b => AV.int .u8 b.toNat).drop (i * 1)).take 1 = [.int .u8 ((w.getD i 0).toNat : Int)] := by
  rw [Nat.mul_one, ← List.map_drop, List.drop_eq_getElem_cons h, List.map_cons, List.take_succ_cons, List.take_zero]
  simp [List.getD_eq_getElem?_getD, h]
theorem take_all {α : Type} {l : List α} {n : Nat} (h : l.length ≤ n) : l.take n = l := List.take_of_length_le h
theorem getD_nat (s : List UInt8) (i : Nat) : s.getD (i : Int).toNat 0 = s.getD i 0 := by simp

/-- An answer is the only one. -/
theorem S_eq {f : Nat} {xs : List AV} {h : AH} {r : AV} {h' : AH} {post : AV → AH → Prop} (hs : ∀ post : AV → AH → Prop, post r h' → S f xs h post k) : S f xs h post k = post r h' := by
  apply propext
  constructor
  · rintro ⟨n, r1, h1, e1, hp⟩
    obtain ⟨m, r2, h2, e2, rfl, rfl⟩ := hs (fun r1 h1 => r1 = r ∧ h1 = h') ⟨rfl, rfl⟩
    have k1 := evF_mono (T := T) hE (Nat.le_max_left n m) _ _ _ _ e1
    have k2 := evF_mono (T := T) hE (Nat.le_max_right n m) _ _ _ _ e2
    rw [k1] at k2
    simp only [Option.some.injEq, Prod.mk.injEq] at k2
    obtain ⟨rfl, rfl⟩ := k2
    exact hp
  · exact hs post
theorem zR : type_of% @splB ∧ type_of% @splD := ⟨@splB, @splD⟩
theorem zQ : type_of% @beq_self_eq_true.{0} ∧ type_of% @lt_t ∧ type_of% @lt_f ∧ type_of% @le_t ∧ type_of% @le_f ∧ type_of% @gt_t ∧ type_of% @gt_f ∧ type_of% @ge_t ∧ type_of% @ge_f ∧
   type_of% @beq_t ∧ type_of% @beq_f ∧ type_of% @bne_t ∧ type_of% @bne_f ∧ type_of% @wrap_i ∧ type_of% @u8c ∧ type_of% @u8n ∧ type_of% @u8T ∧ type_of% @u8F ∧ type_of% @u8D ∧
   type_of% @u8nT ∧ type_of% @u8nF ∧ type_of% @u8nD ∧ type_of% @getD_nat ∧ type_of% @rd_lasT ∧ type_of% @rd_app ∧ type_of% @wr_lasT ∧ type_of% @wr_app ∧ type_of% @rd_set ∧ type_of%
   @rd_ne ∧ type_of% @add_ok ∧ type_of% @tkB ∧ type_of% @take_all ∧ type_of% @bytesL_map := ⟨@beq_self_eq_true.{0}, @lt_t, @lt_f, @le_t, @le_f, @gt_t, @gt_f, @ge_t, @ge_f, @beq_t,
   @beq_f, @bne_t, @bne_f, @wrap_i, @u8c, @u8n, @u8T, @u8F, @u8D, @u8nT, @u8nF, @u8nD, @getD_nat, @rd_lasT, @rd_app, @wr_lasT, @wr_app, @rd_set, @rd_ne, @add_ok, @tkB, @take_all,
   @bytesL_map⟩
end Go.Proofs.YtnamhjdfegohbaaGreatDoor.Ab
