/- Part 3 of the proof of a law of the given program: the rules that it leans on, and what the functions that it reaches answer; the conditions stand with each theorem. -/
import Derived.LoopN
import Derived.Test.YtmlmfjjfciiblaaGreatDoorProg
import Derived.Laws.IdiomCopy
import Derived.WalkKit
import Derived.Deep.RegionLaw
import Derived.Lib.SliceRun
import Derived.Shelf.Strings.Trim
import Derived.Shelf.Small.Utf8
import Derived.Shelf.Small.Strs
import Derived.Shelf.Utf8.RuneCount
import Derived.Shelf.Strings.Search1
import Derived.Shelf.Strings.Search2
import Derived.Shelf.Strings.Search3
import Derived.Shelf.Strings.Count
import Derived.Shelf.LaysM
import Derived.Shelf.Strings.Shaped
import Derived.Shelf.Strings.Split
import Derived.Shelf.Strings.Runes
import Derived.Shelf.Strings.RuneCount
import Derived.Shelf.Strings.AsciiSet
import Derived.Shelf.Unicode.DecodeSlow
import Derived.Shelf.Unicode.DecodeAny
import Derived.Shelf.Unicode.DecodeLast
import Derived.Shelf.Strings.SlTrimAscii
import Derived.ChangeSame
import Derived.Below
import Derived.WideKeyArgs
import Derived.Carry
import Derived.Deep.Slices
import Derived.Deep.Fields
import Derived.Lib.SmallJoins
import Derived.Test.YtmlmfjjfciiblaaGreatDoorQ1
set_option linter.unusedSimpArgs false
set_option linter.unusedVariables false
/- CODE AND CALLS: what the evaluator says, the program does. -/
namespace Go.Proofs.YtmlmfjjfciiblaaGreatDoor.Ab
open Go Go.RowKit

section
variable (P : Program) (F : Nat → Nat)

def chkC (nt : Nat) : C → Code → Bool
  | .kl _ c, d => chkC nt c d
  | .skip, .skip => true
  | .reg is, .region _ ops false => chkIs P F nt ops ops.toList is
  | .drw is ps, .region _ ops true => P.follows .mixedOrders && chkIs P F nt ops ops.toList is && drwOk ops is ps
  | .seq a b, .seq x y => chkC nt a x && chkC nt b y
  | .cond c a b, .cond y x z => chkO F y c && chkC nt a x && chkC nt b z
  | .blk i c, .block j d => decide (i = j) && chkC nt c d
  | .loop c, .loop d => chkC nt c d
  | .exit i, .exit j => decide (i = j)
  | .ret, .ret => true
  | .bad, _ => true
  | _, _ => false

def chkRes : List ResultVar → List Res → Bool
  | [], [] => true
  | .tmp t :: rs, .tmp t' :: qs => decide (t = t') && chkRes rs qs
  | .cell a t :: rs, .cell agg n a' :: qs => decide (a = a') && shp P t agg n && chkRes rs qs
  | _, _ => false

def chkF (f : Nat) (fi : FI) : Bool := match P.funcs[F f]? with
  | some fn => match fn.body with
    | some c => !(fn.name == "runtime.NumGoroutine") && chkC P F fn.ntmps fi.body c && chkRes P fn.results.toList fi.res
    | none => false
  | none => false
end

def X.exit' : X → Exit
  | .normal => .normal
  | .exit i => .exit i
  | .ret => .ret

section
variable {P : Program} {F : Nat → Nat} {base : Nat} {cf : CF} {nt : Nat}

/-- What a piece of code leaves behind. -/
def Post (P : Program) (F : Nat → Nat) (base nt : Nat) (m : Emb) (h : AH) (w : World) (ds : List Deferred) (x : X) (e' : Env) (h' : AH) : Exit → Act → World → Prop :=
  fun ee a' w' => ee = x.exit' ∧ a'.defers = ds ∧ nt ≤ a'.tmps.size ∧ ∃ m', RelEnv F m' e' a'.tmps ∧ StepR F base m h w m' h' w'

theorem Post.trans {m m1 : Emb} {h h1 h' : AH} {w w1 : World} {ds : List Deferred} {x : X} {e' : Env} {ee : Exit} {a' : Act} {w' : World} (hs : StepR F base m h w m1 h1 w1) (hp : Post P F base nt m1 h1 w1 ds x e' h' ee a' w') : Post P F base nt m h w ds x e' h' ee a' w' := by
  obtain ⟨h1, h2, h3, m', h4, h5⟩ := hp
  exact ⟨h1, h2, h3, m', h4, hs.trans h5⟩

theorem code_sound (hs : Sound P F cf) (n : Nat) : ∀ (c : C) (d : Code) (a : Act) (m : Emb) (e : Env) (h : AH) (w : World) (x : X) (e' : Env) (h' : AH), chkC P F nt c d = true → evC cf n c e h = some (x, e', h') →
    RelH F base m h w → RelEnv F m e a.tmps → nt ≤ a.tmps.size → d.wp P (Post P F base nt m h w a.defers x e' h') a w := by
  intro c
  induction c with
  | skip =>
    intro d a m e h w x e' h' hc hev hr he hn
    cases d <;> simp [chkC] at hc
    simp only [evC, Option.some.injEq, Prod.mk.injEq] at hev
    obtain ⟨rfl, rfl, rfl⟩ := hev
    exact wp_skip ⟨rfl, rfl, hn, m, he, StepR.refl hr⟩
  | reg is =>
    intro d a m e h w x e' h' hc hev hr he hn
    cases d <;> try (simp [chkC] at hc; done)
    rename_i id ops draw
    cases draw <;> try (simp [chkC] at hc; done)
    simp only [chkC] at hc
    simp only [evC, Option.map_eq_some_iff, Prod.mk.injEq] at hev
    obtain ⟨⟨e1, h1⟩, hev, rfl, rfl, rfl⟩ := hev
    exact reg_sound hs hc hev hr he hn fun a' w' m' k1 k2 k3 k4 => ⟨rfl, k1, k2, m', k3, k4⟩
  | drw is ps =>
    intro d a m e h w x e' h' hc hev hr he hn
    cases d <;> try (simp [chkC] at hc; done)
    rename_i id ops draw
    cases draw <;> try (simp [chkC] at hc; done)
    simp only [chkC] at hc
    simp only [Bool.and_eq_true] at hc
    simp only [evC, Option.map_eq_some_iff, Prod.mk.injEq] at hev
    obtain ⟨⟨e1, h1⟩, hev, rfl, rfl, rfl⟩ := hev
    exact drw_sound hs hc.1.1 hc.1.2 hc.2 hev hr he hn fun a' w' m' k1 k2 k3 k4 => ⟨rfl, k1, k2, m', k3, k4⟩
  | kl ts c ih =>
    intro d a m e h w x e' h' hc hev hr he hn
    simp only [chkC] at hc
    simp only [evC] at hev
    exact ih d a m _ h w x e' h' hc hev hr (he.dels ts) hn
  | seq c1 c2 ih1 ih2 =>
    intro d a m e h w x e' h' hc hev hr he hn
    cases d <;> simp only [chkC] at hc <;> try (cases hc; done)
    simp only [Bool.and_eq_true] at hc
    simp only [evC] at hev
    refine wp_seq ?_
    split at hev
    · rename_i e1 h1 hev1
      refine wp_mono (ih1 _ a m e h w _ e1 h1 hc.1 hev1 hr he hn) ?_
      rintro ee a1 w1 ⟨rfl, k1, k2, m1, k3, k4⟩
      have := ih2 _ a1 m1 e1 h1 w1 x e' h' hc.2 hev k4.rel k3 k2
      rw [k1] at this
      exact wp_mono this fun ee a2 w2 hp => Post.trans k4 hp
    · rename_i hne
      refine wp_mono (ih1 _ a m e h w _ e' h' hc.1 hev hr he hn) ?_
      rintro ee a1 w1 ⟨rfl, k1, k2, m1, k3, k4⟩
      cases x with
      | normal => exact absurd hev (hne _ _)
      | exit i => exact ⟨rfl, k1, k2, m1, k3, k4⟩
      | ret => exact ⟨rfl, k1, k2, m1, k3, k4⟩
  | cond y c1 c2 ih1 ih2 =>
    intro d a m e h w x e' h' hc hev hr he hn
    cases d <;> simp only [chkC] at hc <;> try (cases hc; done)
    simp only [Bool.and_eq_true] at hc
    simp only [evC] at hev
    split at hev
    · rename_i t ht
      have hv := chkO_rel he hc.1.1
      rw [ht] at hv
      refine wp_cond (rel_bool hv) ?_
      cases t
      · exact ih2 _ a m e h w x e' h' hc.2 hev hr he hn
      · exact ih1 _ a m e h w x e' h' hc.1.2 hev hr he hn
    · cases hev
  | blk id c ih =>
    intro d a m e h w x e' h' hc hev hr he hn
    cases d <;> simp only [chkC] at hc <;> try (cases hc; done)
    rename_i id2 d2
    simp only [Bool.and_eq_true, decide_eq_true_eq] at hc
    obtain ⟨rfl, hc⟩ := hc
    simp only [evC] at hev
    refine wp_block ?_
    split at hev
    · rename_i id' e1 h1 hev1
      refine wp_mono (ih _ a m e h w _ e1 h1 hc hev1 hr he hn) ?_
      rintro ee a1 w1 ⟨rfl, k1, k2, m1, k3, k4⟩
      simp only [X.exit', Exit.inBlock]
      split at hev
      · rename_i hid
        rw [if_pos hid]
        simp only [Option.some.injEq, Prod.mk.injEq] at hev
        obtain ⟨rfl, rfl, rfl⟩ := hev
        exact ⟨rfl, k1, k2, m1, k3, k4⟩
      · rename_i hid
        rw [if_neg hid]
        simp only [Option.some.injEq, Prod.mk.injEq] at hev
        obtain ⟨rfl, rfl, rfl⟩ := hev
        exact ⟨rfl, k1, k2, m1, k3, k4⟩
    · rename_i hne
      refine wp_mono (ih _ a m e h w _ e' h' hc hev hr he hn) ?_
      rintro ee a1 w1 ⟨rfl, k1, k2, m1, k3, k4⟩
      cases x with
      | normal => exact ⟨rfl, k1, k2, m1, k3, k4⟩
      | exit i => exact absurd hev (hne _ _ _)
      | ret => exact ⟨rfl, k1, k2, m1, k3, k4⟩
  | loop c ih =>
    intro d a m e h w x e' h' hc hev hr he hn
    cases d <;> simp only [chkC] at hc <;> try (cases hc; done)
    rename_i d2
    simp only [evC] at hev
    have key : ∀ (k : Nat) (a : Act) (m : Emb) (e : Env) (h : AH) (w : World), evLoop (evC cf n c) k e h = some (x, e', h') → RelH F base m h w → RelEnv F m e a.tmps → nt ≤ a.tmps.size →
        Code.rounds P d2 (Post P F base nt m h w a.defers x e' h') k a w := by
      intro k
      induction k with
      | zero => intro a m e h w hev; simp [evLoop] at hev
      | succ k ihk =>
        intro a m e h w hev hr he hn
        rw [rounds_succ]
        simp only [evLoop] at hev
        split at hev
        · rename_i e1 h1 hev1
          refine wp_mono (ih _ a m e h w _ e1 h1 hc hev1 hr he hn) ?_
          rintro ee a1 w1 ⟨rfl, k1, k2, m1, k3, k4⟩
          have := ihk a1 m1 e1 h1 w1 hev k4.rel k3 k2
          rw [k1] at this
          simp only [X.exit', Exit.then]
          have mono : ∀ (k : Nat) (Q Q' : Exit → Act → World → Prop), (∀ ee a w, Q ee a w → Q' ee a w) → ∀ a w, Code.rounds P d2 Q k a w → Code.rounds P d2 Q' k a w := by
            intro k Q Q' hq
            induction k with
            | zero => intro a w hh; exact hh
            | succ k ih =>
              intro a w hh
              rw [rounds_succ] at hh ⊢
              refine wp_mono hh ?_
              intro ee a w hx
              cases ee <;> first | exact ih _ _ hx | exact hq _ _ _ hx
          exact mono _ _ _ (fun ee a2 w2 hp => Post.trans k4 hp) _ _ this
        · rename_i hne
          refine wp_mono (ih _ a m e h w _ e' h' hc hev hr he hn) ?_
          rintro ee a1 w1 ⟨rfl, k1, k2, m1, k3, k4⟩
          cases x with
          | normal => exact absurd hev (hne _ _)
          | exit i => exact ⟨rfl, k1, k2, m1, k3, k4⟩
          | ret => exact ⟨rfl, k1, k2, m1, k3, k4⟩
    exact wp_loop_rounds n (key n a m e h w hev hr he hn)
  | exit i =>
    intro d a m e h w x e' h' hc hev hr he hn
    cases d <;> simp [chkC] at hc
    subst hc
    simp only [evC, Option.some.injEq, Prod.mk.injEq] at hev
    obtain ⟨rfl, rfl, rfl⟩ := hev
    exact wp_exit ⟨rfl, rfl, hn, m, he, StepR.refl hr⟩
  | ret =>
    intro d a m e h w x e' h' hc hev hr he hn
    cases d <;> simp [chkC] at hc
    simp only [evC, Option.some.injEq, Prod.mk.injEq] at hev
    obtain ⟨rfl, rfl, rfl⟩ := hev
    exact wp_ret ⟨rfl, rfl, hn, m, he, StepR.refl hr⟩
  | bad =>
    intro d a m e h w x e' h' hc hev hr he hn
    simp [evC] at hev

def oneRes (tmps : Array Value) : ResultVar → Sem Value
  | .tmp t => pure (tmps.getD t undef)
  | .cell a t => do loadVar t (← asAddr (tmps.getD a undef))
theorem results_eq (fn : Func) (tmps : Array Value) : results fn tmps = (do
    let vs ← fn.results.mapM (oneRes tmps)
    pure (if h : vs.size = 1 then vs[0] else .tuple vs)) := rfl

theorem res_run : ∀ (rs : List ResultVar) (qs : List Res) {e : Env} {h : AH} {w : World} {m : Emb} {tmps : Array Value} {vs : List AV}, chkRes P rs qs = true → RelH F base m h w → RelEnv F m e tmps → resL e h qs = some vs →
    ∃ us : List Value, (rs.mapM (oneRes tmps)).run P w = .ok us w ∧ RelL F m vs us
  | [], [], e, h, w, m, tmps, vs, hc, hr, he, hv => by
    simp only [resL, Option.some.injEq] at hv
    subst hv
    exact ⟨[], by simp, by simp [RelL]⟩
  | [], _ :: _, e, h, w, m, tmps, vs, hc, hr, he, hv => by simp [chkRes] at hc
  | .tmp _ :: _, [], e, h, w, m, tmps, vs, hc, hr, he, hv => by simp [chkRes] at hc
  | .cell _ _ :: _, [], e, h, w, m, tmps, vs, hc, hr, he, hv => by simp [chkRes] at hc
  | .tmp _ :: _, .cell .. :: _, e, h, w, m, tmps, vs, hc, hr, he, hv => by simp [chkRes] at hc
  | .cell _ _ :: _, .tmp _ :: _, e, h, w, m, tmps, vs, hc, hr, he, hv => by simp [chkRes] at hc
  | .tmp t :: rs, .tmp t' :: qs, e, h, w, m, tmps, vs, hc, hr, he, hv => by
    simp only [chkRes, Bool.and_eq_true, decide_eq_true_eq] at hc
    obtain ⟨rfl, hc⟩ := hc
    simp only [resL, res1] at hv
    split at hv
    · rename_i v vs' h1 h2
      cases hv
      cases h1
      obtain ⟨us, hu, hrel⟩ := res_run rs qs hc hr he h2
      refine ⟨tmps.getD t undef :: us, ?_, ?_⟩
      · simp only [List.mapM_cons, oneRes, Sem.run_bind, Sem.run_pure, Result.andThen, hu]
      · simp only [RelL]; exact ⟨_, _, rfl, he t, hrel⟩
    · cases hv
  | .cell t ty :: rs, .cell agg n t' :: qs, e, h, w, m, tmps, vs, hc, hr, he, hv => by
    simp only [chkRes, Bool.and_eq_true, decide_eq_true_eq] at hc
    obtain ⟨⟨rfl, hsh⟩, hc⟩ := hc
    simp only [resL] at hv
    split at hv
    · rename_i v vs' h1 h2
      cases hv
      obtain ⟨us, hu, hrel⟩ := res_run rs qs hc hr he h2
      simp only [res1] at h1
      split at h1
      case h_2 => cases h1
      rename_i c k off mm hk
      have hx := he t
      rw [hk] at hx
      obtain ⟨p, hp, hv2, hlo, hext⟩ := rel_ptr hx
      split at h1
      case isFalse => cases h1
      rename_i hle
      split at h1
      case h_2 => cases h1
      rename_i cs hcs
      obtain ⟨ls, hls, hlen, hrun⟩ := hr.loads (P := P) hcs hp hlo (by omega)
      have hsh' := hsh
      simp only [shp, Bool.and_eq_true, Bool.or_eq_true] at hsh'
      obtain ⟨⟨g1, g2⟩, g3⟩ := hsh'
      have hlv : ∃ u, (loadVar ty ⟨p.blk, p.base + (off - p.lo), none⟩).run P w = .ok u w ∧ RelV F m v u := by
        rcases mkv_rel h1 hls with ⟨rfl, hrv⟩ | ⟨rfl, u, rfl, hrv⟩
        · exact ⟨_, by simp [loadVar, run_isAg g1, run_sz g2, hrun], hrv⟩
        · have hn : n = 1 := by simpa using g3
          subst hn
          have hrun' := hrun
          have hcell : w.cell? ⟨p.blk, p.base + (off - p.lo), none⟩ = some u := by
            obtain ⟨us', hus', hlen', hc'⟩ := hr.row_at hcs hp hlo (by omega)
            simp only [loadCells, loadCellsFrom, Sem.run_bind, addr_add, Nat.add_zero, run_load] at hrun'
            cases hcc : w.cell? ⟨p.blk, p.base + (off - p.lo), none⟩ with
            | some q => rw [hcc] at hrun'; simp at hrun'; rw [hrun']
            | none =>
              obtain ⟨q, hq⟩ : ∃ q, us'[0]? = some q := ⟨us'[0], by simp⟩
              have := hc' 0 q hq
              rw [Nat.add_zero, hcc] at this; cases this
          exact ⟨u, by simp [loadVar, run_isAg g1, hcell], hrv⟩
      obtain ⟨u, hlu, hru⟩ := hlv
      refine ⟨u :: us, ?_, ?_⟩
      · simp only [List.mapM_cons, oneRes, Sem.run_bind, hv2, asAddr, Sem.run_pure, Result.andThen, hlu, hu]
      · simp only [RelL]; exact ⟨_, _, rfl, hru, hrel⟩
    · cases hv

theorem results_run {fn : Func} {qs : List Res} {e : Env} {h : AH} {w : World} {m : Emb} {tmps : Array Value} {r : AV} (hc : chkRes P fn.results.toList qs = true) (hr : RelH F base m h w) (he : RelEnv F m e tmps) (hv : resV e h qs = some r) :
    ∃ v, (results fn tmps).run P w = .ok v w ∧ RelV F m r v := by
  unfold resV at hv
  have key : ∀ vs, resL e h qs = some vs → ∃ us : List Value, RelL F m vs us ∧ (results fn tmps).run P w = .ok (if h : us.toArray.size = 1 then us.toArray[0] else .tuple us.toArray) w := by
    intro vs hvs
    obtain ⟨us, h1, h2⟩ := res_run fn.results.toList qs hc hr he hvs
    refine ⟨us, h2, ?_⟩
    rw [results_eq, Array.mapM_eq_mapM_toList]
    simp only [Sem.run_bind, Sem.run_map, h1, Result.andThen, Sem.run_pure]
  split at hv
  · rename_i v hvs
    cases hv
    obtain ⟨us, h1, h2⟩ := key _ hvs
    simp only [RelL] at h1
    obtain ⟨u, l, rfl, hu, rfl⟩ := h1
    exact ⟨u, by rw [h2]; simp, hu⟩
  · rename_i vs hne hvs
    cases hv
    obtain ⟨us, h1, h2⟩ := key _ hvs
    refine ⟨.tuple us.toArray, ?_, by simp only [RelV]; exact ⟨_, rfl, by simpa using h1⟩⟩
    have hl := h1.length
    have hne1 : us.length ≠ 1 := by
      intro h0
      rw [h0] at hl
      match vs, hl with
      | [v], _ => exact hne v rfl
    rw [h2]
    simp [hne1]
  · cases hv

/-- What a contract of a function outside the table owes. -/
def ExtOk (P : Program) (F : Nat → Nat) (E : Ext) : Prop := ∀ f G, E f = some G → ∀ cf, Sound P F cf → ∀ xs h r h', G cf xs h = some (r, h') → fnOk P (F f) = true ∧ ∀ base m w args, RelH F base m h w → RelL F m xs args.toList →
    Calls P (F f) args w fun e w' => ∃ v m', e = .returned v ∧ RelV F m' r v ∧ StepR F base m h w m' h' w'

theorem sound {T : Nat → Option FI} {E : Ext} (hT : ∀ f fi, E f = none → T f = some fi → chkF P F f fi = true) (hE : ExtOk P F E) : ∀ n, Sound P F (evF T E n)
  | 0 => by intro f xs h r h' hev; simp [evF] at hev
  | n + 1 => by
    intro f xs h r h' hev
    simp only [evF] at hev
    split at hev
    · rename_i G hG
      exact hE f G hG _ (sound hT hE n) xs h r h' hev
    · rename_i hG
      split at hev
      case h_2 => cases hev
      rename_i fi hfi
      have hc := hT f fi hG hfi
      unfold chkF at hc
      split at hc
      case h_2 => cases hc
      rename_i fn hfn
      split at hc
      case h_2 => cases hc
      rename_i c hbody
      simp only [Bool.and_eq_true, Bool.not_eq_true'] at hc
      obtain ⟨⟨h1, h2⟩, h3⟩ := hc
      refine ⟨by simp [fnOk, hfn, hbody]; simpa using h1, ?_⟩
      intro base m w args hr hx
      refine calls_of_wp hfn hbody ?_
      have hlen := hx.length
      have he : RelEnv F m (Env.init 0 xs) (args ++ Array.replicate (fn.ntmps - args.size) undef) := by
        intro t
        rw [init_get]
        split
        · rename_i ht
          have hlt : t < xs.length := by omega
          obtain ⟨v, hv, hxv⟩ := hx.get t xs[t] (by simp)
          have h0 : xs.getD (t - 0) .undef = xs[t] := by simp [List.getD_eq_getElem?_getD, hlt]
          rw [h0]
          rw [Array.getElem?_toList] at hv
          have : (args ++ Array.replicate (fn.ntmps - args.size) undef).getD t undef = v := by
            rw [Array.getD_eq_getD_getElem?, Array.getElem?_append_left (by simp at hlen; omega), hv]; rfl
          rw [this]; exact hxv
        · simp only [RelV]
      have hn : fn.ntmps ≤ (args ++ Array.replicate (fn.ntmps - args.size) undef).size := by simp; omega
      have main : ∀ x e' h1', evC (evF T E n) n fi.body (Env.init 0 xs) h = some (x, e', h1') → (x = .normal ∨ x = .ret) → (resV e' h1' fi.res).map (·, h1') = some (r, h') →
          c.wp P (bodyPost P fn fun ee w' => ∃ v m', ee = .returned v ∧ RelV F m' r v ∧ StepR F base m h w m' h' w') { tmps := args ++ Array.replicate (fn.ntmps - args.size) undef, defers := [] } w := by
        intro x e' h1' hev hx' hres
        refine wp_mono (code_sound (sound hT hE n) n fi.body c _ m _ h w x e' h1' h2 hev hr he hn) ?_
        rintro ee a' w' ⟨rfl, k1, k2, m', k3, k4⟩
        simp only [Option.map_eq_some_iff, Prod.mk.injEq] at hres
        obtain ⟨r', hres, rfl, rfl⟩ := hres
        obtain ⟨v, hv, hrv⟩ := results_run h3 k4.rel k3 hres
        rcases hx' with rfl | rfl
        · exact ⟨k1, v, hv, v, m', rfl, hrv, k4⟩
        · exact ⟨k1, v, hv, v, m', rfl, hrv, k4⟩
      split at hev
      · rename_i e' h1' hc'
        exact main _ e' h1' hc' (.inl rfl) hev
      · rename_i e' h1' hc'
        exact main _ e' h1' hc' (.inr rfl) hev
      · cases hev

end
end Go.Proofs.YtmlmfjjfciiblaaGreatDoor.Ab

/- THE SEAT's numbers of functions, and that the bodies are the program's. -/
namespace Go.Proofs.YtmlmfjjfciiblaaGreatDoor.Ab
open Go

def F : Nat → Nat := fun n => [0, 0, 0, 0, 0, 0, 0, 0, 0, 0, 0, 0, 0, 0, 0, 0, 0, 0, 0, 0, 0, 0, 0, 0, 0, 0, 0, 0, 0, 0, 0, 0, 0, 0, 0, 0, 0, 0, 0, 0, 0, 0, 0, 0, 0, 0, 0, 0, 0, 0, 0, 0, 0, 0, 0, 0, 0, 0, 0, 0, 0, 99, 0, 0, 0, 0, 102, 0, 0, 0, 0, 0, 0, 0, 51, 0, 0, 42, 0, 0, 0, 0, 46, 0, 0, 0, 0, 0, 0, 0, 0, 0, 0, 0, 0, 0, 0, 0, 0, 0, 0, 0, 0, 90, 0, 57, 0, 0, 109, 92, 0, 54, 0, 0, 0, 0, 63, 0, 0, 64, 0, 0, 0, 0, 0, 91, 78, 77, 0, 0, 81, 75, 0, 0, 0, 5, 7, 0, 22, 10, 0, 0, 28, 0, 0, 0, 0, 0, 0, 0, 0, 0, 0, 0, 0, 9, 11, 12, 13, 17, 18, 19, 21, 35, 25, 27, 44, 23, 0, 0, 26, 31, 32, 33, 34, 41, 53, 52, 36, 38, 37, 43, 67, 47, 45, 39, 48, 49, 50, 55, 56, 58, 60, 61, 59, 62, 65, 66, 80, 82, 96, 98, 97, 100, 101, 107, 108, 0, 0, 3, 6, 8, 4, 14, 15, 16, 20, 24, 29, 30, 40, 0, 0, 0, 0, 0, 0, 0, 0, 0, 0, 0, 0, 0, 0, 0, 0, 0, 0, 0, 0, 0, 0, 0, 0, 0, 0, 0, 0, 0, 0, 0, 0, 0, 0, 0].getD n 0
theorem chk209 : chkF Go.Proofs.Tryz.prog F 209 fi209 = true := by decide +kernel
theorem chk212 : chkF Go.Proofs.Tryz.prog F 212 fi212 = true := by decide +kernel
theorem chk135 : chkF Go.Proofs.Tryz.prog F 135 fi135 = true := by decide +kernel
theorem chk210 : chkF Go.Proofs.Tryz.prog F 210 fi210 = true := by decide +kernel
theorem chk136 : chkF Go.Proofs.Tryz.prog F 136 fi136 = true := by decide +kernel
theorem chk211 : chkF Go.Proofs.Tryz.prog F 211 fi211 = true := by decide +kernel
theorem chk155 : chkF Go.Proofs.Tryz.prog F 155 fi155 = true := by decide +kernel
theorem chk139 : chkF Go.Proofs.Tryz.prog F 139 fi139 = true := by decide +kernel
theorem chk156 : chkF Go.Proofs.Tryz.prog F 156 fi156 = true := by decide +kernel
theorem chk157 : chkF Go.Proofs.Tryz.prog F 157 fi157 = true := by decide +kernel
theorem chk158 : chkF Go.Proofs.Tryz.prog F 158 fi158 = true := by decide +kernel
theorem chk213 : chkF Go.Proofs.Tryz.prog F 213 fi213 = true := by decide +kernel
theorem chk214 : chkF Go.Proofs.Tryz.prog F 214 fi214 = true := by decide +kernel
theorem chk215 : chkF Go.Proofs.Tryz.prog F 215 fi215 = true := by decide +kernel
theorem chk159 : chkF Go.Proofs.Tryz.prog F 159 fi159 = true := by decide +kernel
theorem chk160 : chkF Go.Proofs.Tryz.prog F 160 fi160 = true := by decide +kernel
theorem chk161 : chkF Go.Proofs.Tryz.prog F 161 fi161 = true := by decide +kernel
theorem chk216 : chkF Go.Proofs.Tryz.prog F 216 fi216 = true := by decide +kernel
theorem chk162 : chkF Go.Proofs.Tryz.prog F 162 fi162 = true := by decide +kernel
theorem chk138 : chkF Go.Proofs.Tryz.prog F 138 fi138 = true := by decide +kernel
theorem chk167 : chkF Go.Proofs.Tryz.prog F 167 fi167 = true := by decide +kernel
theorem chk217 : chkF Go.Proofs.Tryz.prog F 217 fi217 = true := by decide +kernel
theorem chk164 : chkF Go.Proofs.Tryz.prog F 164 fi164 = true := by decide +kernel
theorem chk170 : chkF Go.Proofs.Tryz.prog F 170 fi170 = true := by decide +kernel
theorem chk165 : chkF Go.Proofs.Tryz.prog F 165 fi165 = true := by decide +kernel
theorem chk142 : chkF Go.Proofs.Tryz.prog F 142 fi142 = true := by decide +kernel
theorem chk218 : chkF Go.Proofs.Tryz.prog F 218 fi218 = true := by decide +kernel
theorem chk219 : chkF Go.Proofs.Tryz.prog F 219 fi219 = true := by decide +kernel
theorem chk171 : chkF Go.Proofs.Tryz.prog F 171 fi171 = true := by decide +kernel
theorem chk172 : chkF Go.Proofs.Tryz.prog F 172 fi172 = true := by decide +kernel
theorem chk173 : chkF Go.Proofs.Tryz.prog F 173 fi173 = true := by decide +kernel
theorem chk174 : chkF Go.Proofs.Tryz.prog F 174 fi174 = true := by decide +kernel
theorem chk163 : chkF Go.Proofs.Tryz.prog F 163 fi163 = true := by decide +kernel
theorem chk178 : chkF Go.Proofs.Tryz.prog F 178 fi178 = true := by decide +kernel
theorem chk180 : chkF Go.Proofs.Tryz.prog F 180 fi180 = true := by decide +kernel
theorem chk179 : chkF Go.Proofs.Tryz.prog F 179 fi179 = true := by decide +kernel
theorem chk185 : chkF Go.Proofs.Tryz.prog F 185 fi185 = true := by decide +kernel
theorem chk175 : chkF Go.Proofs.Tryz.prog F 175 fi175 = true := by decide +kernel
theorem chk77 : chkF Go.Proofs.Tryz.prog F 77 fi77 = true := by decide +kernel
theorem chk181 : chkF Go.Proofs.Tryz.prog F 181 fi181 = true := by decide +kernel
theorem chk166 : chkF Go.Proofs.Tryz.prog F 166 fi166 = true := by decide +kernel
theorem chk184 : chkF Go.Proofs.Tryz.prog F 184 fi184 = true := by decide +kernel
theorem chk82 : chkF Go.Proofs.Tryz.prog F 82 fi82 = true := by decide +kernel
theorem chk183 : chkF Go.Proofs.Tryz.prog F 183 fi183 = true := by decide +kernel
theorem chk186 : chkF Go.Proofs.Tryz.prog F 186 fi186 = true := by decide +kernel
theorem chk187 : chkF Go.Proofs.Tryz.prog F 187 fi187 = true := by decide +kernel
theorem chk188 : chkF Go.Proofs.Tryz.prog F 188 fi188 = true := by decide +kernel
theorem chk74 : chkF Go.Proofs.Tryz.prog F 74 fi74 = true := by decide +kernel
theorem chk177 : chkF Go.Proofs.Tryz.prog F 177 fi177 = true := by decide +kernel
theorem chk176 : chkF Go.Proofs.Tryz.prog F 176 fi176 = true := by decide +kernel
theorem chk189 : chkF Go.Proofs.Tryz.prog F 189 fi189 = true := by decide +kernel
theorem chk105 : chkF Go.Proofs.Tryz.prog F 105 fi105 = true := by decide +kernel
theorem chk191 : chkF Go.Proofs.Tryz.prog F 191 fi191 = true := by decide +kernel
theorem chk192 : chkF Go.Proofs.Tryz.prog F 192 fi192 = true := by decide +kernel
theorem chk193 : chkF Go.Proofs.Tryz.prog F 193 fi193 = true := by decide +kernel
theorem chk195 : chkF Go.Proofs.Tryz.prog F 195 fi195 = true := by decide +kernel
theorem chk116 : chkF Go.Proofs.Tryz.prog F 116 fi116 = true := by decide +kernel
theorem chk119 : chkF Go.Proofs.Tryz.prog F 119 fi119 = true := by decide +kernel
theorem chk196 : chkF Go.Proofs.Tryz.prog F 196 fi196 = true := by decide +kernel
theorem chk197 : chkF Go.Proofs.Tryz.prog F 197 fi197 = true := by decide +kernel
theorem chk182 : chkF Go.Proofs.Tryz.prog F 182 fi182 = true := by decide +kernel
theorem chk127 : chkF Go.Proofs.Tryz.prog F 127 fi127 = true := by decide +kernel
theorem chk198 : chkF Go.Proofs.Tryz.prog F 198 fi198 = true := by decide +kernel
theorem chk130 : chkF Go.Proofs.Tryz.prog F 130 fi130 = true := by decide +kernel
theorem chk199 : chkF Go.Proofs.Tryz.prog F 199 fi199 = true := by decide +kernel
theorem chk103 : chkF Go.Proofs.Tryz.prog F 103 fi103 = true := by decide +kernel
theorem chk125 : chkF Go.Proofs.Tryz.prog F 125 fi125 = true := by decide +kernel
theorem chk109 : chkF Go.Proofs.Tryz.prog F 109 fi109 = true := by decide +kernel
theorem chk200 : chkF Go.Proofs.Tryz.prog F 200 fi200 = true := by decide +kernel
theorem chk202 : chkF Go.Proofs.Tryz.prog F 202 fi202 = true := by decide +kernel
theorem chk201 : chkF Go.Proofs.Tryz.prog F 201 fi201 = true := by decide +kernel
theorem chk61 : chkF Go.Proofs.Tryz.prog F 61 fi61 = true := by decide +kernel
theorem chk203 : chkF Go.Proofs.Tryz.prog F 203 fi203 = true := by decide +kernel
theorem chk204 : chkF Go.Proofs.Tryz.prog F 204 fi204 = true := by decide +kernel
theorem chk66 : chkF Go.Proofs.Tryz.prog F 66 fi66 = true := by decide +kernel
theorem chk205 : chkF Go.Proofs.Tryz.prog F 205 fi205 = true := by decide +kernel
theorem chk206 : chkF Go.Proofs.Tryz.prog F 206 fi206 = true := by decide +kernel
theorem chk108 : chkF Go.Proofs.Tryz.prog F 108 fi108 = true := by decide +kernel
theorem hT : ∀ f fi, E f = none → T f = some fi → chkF Go.Proofs.Tryz.prog F f fi = true := by
  have all : ∀ x ∈ tab, chkF Go.Proofs.Tryz.prog F x.1 x.2 = true := by
    intro x hx
    simp only [tab, List.mem_cons, List.not_mem_nil, or_false] at hx
    rcases hx with rfl | rfl | rfl | rfl | rfl | rfl | rfl | rfl | rfl | rfl | rfl | rfl | rfl | rfl | rfl | rfl | rfl | rfl | rfl | rfl | rfl | rfl | rfl | rfl | rfl | rfl | rfl | rfl | rfl | rfl | rfl | rfl | rfl | rfl | rfl | rfl | rfl | rfl | rfl | rfl | rfl | rfl | rfl | rfl | rfl | rfl | rfl | rfl | rfl | rfl | rfl | rfl | rfl | rfl | rfl | rfl | rfl | rfl | rfl | rfl | rfl | rfl | rfl | rfl | rfl | rfl | rfl | rfl | rfl | rfl | rfl | rfl | rfl | rfl | rfl | rfl | rfl | rfl
    · exact chk209
    · exact chk212
    · exact chk135
    · exact chk210
    · exact chk136
    · exact chk211
    · exact chk155
    · exact chk139
    · exact chk156
    · exact chk157
    · exact chk158
    · exact chk213
    · exact chk214
    · exact chk215
    · exact chk159
    · exact chk160
    · exact chk161
    · exact chk216
    · exact chk162
    · exact chk138
    · exact chk167
    · exact chk217
    · exact chk164
    · exact chk170
    · exact chk165
    · exact chk142
    · exact chk218
    · exact chk219
    · exact chk171
    · exact chk172
    · exact chk173
    · exact chk174
    · exact chk163
    · exact chk178
    · exact chk180
    · exact chk179
    · exact chk185
    · exact chk175
    · exact chk77
    · exact chk181
    · exact chk166
    · exact chk184
    · exact chk82
    · exact chk183
    · exact chk186
    · exact chk187
    · exact chk188
    · exact chk74
    · exact chk177
    · exact chk176
    · exact chk189
    · exact chk105
    · exact chk191
    · exact chk192
    · exact chk193
    · exact chk195
    · exact chk116
    · exact chk119
    · exact chk196
    · exact chk197
    · exact chk182
    · exact chk127
    · exact chk198
    · exact chk130
    · exact chk199
    · exact chk103
    · exact chk125
    · exact chk109
    · exact chk200
    · exact chk202
    · exact chk201
    · exact chk61
    · exact chk203
    · exact chk204
    · exact chk66
    · exact chk205
    · exact chk206
    · exact chk108
  intro f fi _ h
  simp only [T, Option.map_eq_some_iff] at h
  obtain ⟨x, hx, rfl⟩ := h
  have h1 := List.find?_some hx
  have h2 := List.mem_of_find?_eq_some hx
  have h3 : x.1 = f := by simpa using h1
  rw [← h3]; exact all x h2
end Go.Proofs.YtmlmfjjfciiblaaGreatDoor.Ab

/- FOR CONTRACTS outside the table: calls that turn nothing old. -/
namespace Go.Proofs.YtmlmfjjfciiblaaGreatDoor.Ab
open Go Go.RowKit

theorem StepR.grown {F : Nat → Nat} {base : Nat} {m : Emb} {h : AH} {w w' : World} (hr : RelH F base m h w) (hold : ∀ b : Nat, b < w.heap.size → w'.heap[b]? = w.heap[b]?) (hsz : w.heap.size ≤ w'.heap.size) (ho : w'.os = w.os) (ht : w'.tape = w.tape) (hu : w'.output = w.output) : StepR F base m h w m h w' := by
  refine ⟨Emb.le_refl m, ⟨hr.rowc, hr.objc, ?_, hr.inj, hr.injo, hr.injr, ?_, ?_, hr.vers, Nat.le_trans hr.le hsz⟩, ho, ht, hu, hsz, fun b hb _ => hold b hb, fun _ _ _ h => .inl h, fun _ _ h => .inl h, fun _ _ _ => rfl, Nat.le_refl _⟩
  · intro c ob hc
    exact ObjRel.keep (hr.ob c ob hc) (Emb.le_refl m) (fun _ _ h => h) (fun _ h => h) (fun k p hp => hold _ (hr.ltr c k p hp)) (fun b hb => hold _ (hr.lto c b hb))
  · intro c k p hp; exact Nat.lt_of_lt_of_le (hr.ltr c k p hp) hsz
  · intro c b hb; exact Nat.lt_of_lt_of_le (hr.lto c b hb) hsz
theorem StepR.below' {F : Nat → Nat} {base : Nat} {m : Emb} {h : AH} {w w' : World} (hr : RelH F base m h w) (hb : Below w.heap.size w w') : StepR F base m h w m h w' :=
  StepR.grown hr hb.block hb.size hb.os hb.tape hb.output

/-- A contract of one function. -/
def ExtAt (P : Program) (F : Nat → Nat) (f : Nat) (G : List AV → Option AV) : Prop :=
  ∀ xs r, G xs = some r → fnOk P (F f) = true ∧ ∀ (m : Emb) (w : World) (args : Array Value), RelL F m xs args.toList →
    Calls P (F f) args w fun e w' => ∃ v, e = .returned v ∧ RelV F m r v ∧ Below w.heap.size w w'
/-- .. that reads the heap. -/
def ExtAtH (P : Program) (F : Nat → Nat) (f : Nat) (G : List AV → AH → Option AV) : Prop :=
  ∀ xs h r, G xs h = some r → fnOk P (F f) = true ∧ ∀ (base : Nat) (m : Emb) (w : World) (args : Array Value), RelH F base m h w → RelL F m xs args.toList →
    Calls P (F f) args w fun e w' => ∃ v, e = .returned v ∧ RelV F m r v ∧ Below w.heap.size w w'
theorem ExtAt.h {P : Program} {F : Nat → Nat} {f : Nat} {G : List AV → Option AV} (hG : ExtAt P F f G) : ExtAtH P F f fun xs _ => G xs := fun xs _ r hr => by
  obtain ⟨h1, h2⟩ := hG xs r hr
  exact ⟨h1, fun _ m w args _ hx => h2 m w args hx⟩
theorem ext_pure {P : Program} {F : Nat → Nat} {f : Nat} {G : List AV → AH → Option AV} (hG : ExtAtH P F f G) (cf : CF) (xs : List AV) (h : AH) (r : AV) (h' : AH) (hev : pureX G cf xs h = some (r, h')) : fnOk P (F f) = true ∧ ∀ base m w args, RelH F base m h w → RelL F m xs args.toList →
    Calls P (F f) args w fun e w' => ∃ v m', e = .returned v ∧ RelV F m' r v ∧ StepR F base m h w m' h' w' := by
  simp only [pureX, Option.map_eq_some_iff, Prod.mk.injEq] at hev
  obtain ⟨r', hr', rfl, rfl⟩ := hev
  obtain ⟨h1, h2⟩ := hG xs h r' hr'
  refine ⟨h1, fun base m w args hr hx => (h2 base m w args hr hx).mono ?_⟩
  rintro e w' ⟨v, rfl, hv, hb⟩
  exact ⟨v, m, rfl, hv, StepR.below' hr hb⟩
/-- .. that turns the heap. -/
def ExtAtW (P : Program) (F : Nat → Nat) (f : Nat) (G : List AV → AH → Option (AV × AH)) : Prop :=
  ∀ xs h r h', G xs h = some (r, h') → fnOk P (F f) = true ∧ ∀ (base : Nat) (m : Emb) (w : World) (args : Array Value), RelH F base m h w → RelL F m xs args.toList →
    Calls P (F f) args w fun e w' => ∃ v m', e = .returned v ∧ RelV F m' r v ∧ StepR F base m h w m' h' w'
theorem ext_ok {P : Program} {F : Nat → Nat} (h : ∀ x ∈ xtab, ExtAtH P F x.1 x.2) (h2 : ∀ x ∈ ytab, ExtAtW P F x.1 x.2) : ExtOk P F E := by
  intro f G hf cf _ xs hh r h' hev
  unfold E at hf
  split at hf
  · rename_i x hx
    cases hf
    have h1 := List.find?_some hx
    have h3 : x.1 = f := by simpa using h1
    have := ext_pure (h x (List.mem_of_find?_eq_some hx)) cf xs hh r h' hev
    rwa [h3] at this
  · simp only [Option.map_eq_some_iff] at hf
    obtain ⟨x, hx, rfl⟩ := hf
    have h1 := List.find?_some hx
    have h3 : x.1 = f := by simpa using h1
    have := h2 x (List.mem_of_find?_eq_some hx) xs hh r h' hev
    rwa [h3] at this

/-! ### Writes, by the model's own words -/
theorem wr_cells {F : Nat → Nat} {base : Nat} {m : Emb} {h : AH} {w : World} (hr : RelH F base m h w) {c k off : Nat} {xs : List AV} {h' : AH} (hw : wrRow h c k off xs = some h') {p : Place} (hp : m.row c k = some p) (hlo : p.lo ≤ off) (hext : off + xs.length ≤ p.ext) :
    ∀ j, j < xs.length → (w.cell? ⟨p.blk, p.base + (off - p.lo) + j, none⟩).isSome = true ∧ w.frozen? ⟨p.blk, p.base + (off - p.lo) + j, none⟩ = false := by
  unfold wrRow at hw
  split at hw
  · rename_i cs ver fl hc
    split at hw
    · rename_i hcond
      obtain ⟨rfl, hfl, hl, hsc⟩ := hcond
      obtain ⟨_, h2, h3, h4, C, e, fr, hg, hs, hb, hf, hcell⟩ := hr.ob c _ hc k p hp hfl
      intro j hj
      have hlt : p.base + (off - p.lo) + j < C.size := by omega
      have hf' := hf rfl
      constructor
      · simp only [World.cell?, hg, Option.isSome_none, Bool.false_eq_true, if_false]
        rw [Array.getElem?_eq_getElem hlt]; rfl
      · simp only [World.frozen?, hg]
        rcases hf' with h | h
        · simp; omega
        · simp; omega
    · cases hw
  · cases hw
theorem wr_set {P : Program} {F : Nat → Nat} {base : Nat} {m : Emb} {h : AH} {w : World} (hr : RelH F base m h w) {c k off : Nat} {xs : List AV} {h' : AH} (hw : wrRow h c k off xs = some h') {p : Place} (hp : m.row c k = some p) (hlo : p.lo ≤ off) (hext : off + xs.length ≤ p.ext) {vs : List Value} (hvs : RelL F m xs vs) (hone : ∀ v ∈ vs, v.oneCell' = true) :
    StepR F base m h w m h' (w.setCells p.blk (p.base + (off - p.lo)) vs) := by
  obtain ⟨w', h1, h2⟩ := wr_step (P := P) hr hw hp hlo hext hvs
  have hl := hvs.length
  have hc := wr_cells hr hw hp hlo hext
  have h3 := run_storeCells_cells (P := P) p.blk (p.base + (off - p.lo)) vs 0 w (fun j hj => by simpa using (hc j (by omega)).1) (fun j hj => by simpa using (hc j (by omega)).2) hone
  rw [h1] at h3
  cases h3
  exact h2
/-- 'clear(s)' at elements of three numbers. -/
theorem run_clear3 {P : Program} (w : World) (t e ty : TypeId) (z : Value) (ht : P.underlying t = some (.slice e)) (hv : ∀ w, (zeroValue e).run P w = .ok z w) (hz : z.cells = #[.int .i64 0, .int .i64 0, .int .i64 0]) (b o n c : Nat) (hn : 0 < n)
    (hc : ∀ j, j < n * 3 → (w.cell? ⟨b, o + j, none⟩).isSome = true) (hf : ∀ j, j < n * 3 → w.frozen? ⟨b, o + j, none⟩ = false) :
    (Builtin.clear_ #[t] ty #[.slice (some ⟨b, o, none⟩) n c]).run P w = .ok (.tuple #[]) (w.setCells b o (List.replicate (n * 3) (.int .i64 0))) := by
  have hzc : (Builtin.zeroCells z.cells n).toList = List.replicate (n * 3) (.int .i64 0) := by
    rw [hz]
    simp only [Builtin.zeroCells]
    apply List.ext_getElem
    · simp
    · intro i h1 h2
      have : i % 3 = 0 ∨ i % 3 = 1 ∨ i % 3 = 2 := by omega
      rcases this with h | h | h <;> simp [h]
  have hst := run_storeCells_cells (P := P) b o (List.replicate (n * 3) (.int .i64 0)) 0 w (by simpa using hc) (by simpa using hf) (by intro v hv'; rw [List.eq_of_mem_replicate hv']; rfl)
  simp only [Nat.add_zero] at hst
  obtain ⟨m, rfl⟩ : ∃ m, n = m + 1 := ⟨n - 1, by omega⟩
  simp [Builtin.clear_, run_underlying ht, hv, hzc, hst]
end Go.Proofs.YtmlmfjjfciiblaaGreatDoor.Ab

/- THE SEAT's contract of slices.Delete at clues, by a walk over the library's own text. -/
namespace Go.Proofs.YtmlmfjjfciiblaaGreatDoor.Ab
open Go Go.RowKit Go.Lib

set_option maxHeartbeats 4000000 in
set_option maxRecDepth 1000000 in
/-- slices.Delete, 220 in the machine's numbers. -/
theorem del_walk (b off n cap i j : Nat) (news : List Value) (w : World) (hij : i < j) (hj : j ≤ n) (hcap : n ≤ cap) (hm : n ≤ 1099511627776) (hlen : news.length = (n - j) * 3) (hone : ∀ u ∈ news, u.oneCell' = true) (hsrc : ∀ (t : Nat) u, news[t]? = some u → w.cell? ⟨b, off + j * 3 + t, none⟩ = some u)
    (hc : ∀ t, t < n * 3 → (w.cell? ⟨b, off + t, none⟩).isSome = true ∧ w.frozen? ⟨b, off + t, none⟩ = false) :
    Calls Go.Proofs.Tryz.prog 40 #[.slice (some ⟨b, off, none⟩) n cap, .int .i64 i, .int .i64 j] w fun e w' => e = .returned (.slice (some ⟨b, off, none⟩) (n - (j - i)) cap) ∧
      w' = (w.drew.setCells b (off + i * 3) news).setCells b (off + (i + (n - j)) * 3) (List.replicate ((j - i) * 3) (.int .i64 0)) := by
  have hi3 : (Go.Proofs.Tryz.prog.info? 55).map (fun i => (i.zero, i.size, i.bytes)) = some (some (.agg #[.int .i64 0, .int .i64 0, .int .i64 0]), 3, 24) := by kernel_rfl
  obtain ⟨i0, hi0, hz0, hz1, hz2⟩ := info_parts hi3
  obtain ⟨A, hA, hnews⟩ : ∃ A : Addr, (if cap = j then some (⟨b, off, none⟩ : Addr) else some ⟨b, off + j * 3, none⟩) = some A ∧ Hid (∀ (t : Nat) u, news[t]? = some u → w.drew.cell? (A.add t) = some u) := by
    by_cases h : cap = j
    · refine ⟨⟨b, off, none⟩, by simp [h], fun t u hu => ?_⟩
      have h0 : news.length = 0 := by rw [hlen]; omega
      rw [List.length_eq_zero_iff.1 h0] at hu
      simp at hu
    · refine ⟨⟨b, off + j * 3, none⟩, by simp [h], fun t u hu => ?_⟩
      rw [Addr.add_lit]
      exact hsrc t u hu
  have s1 : Hid (news.length = (n - j) * 3) := hlen
  have s2 : Hid (∀ u ∈ news, u.oneCell' = true) := hone
  have s3 : Hid (∀ t, t < news.length → (w.drew.cell? ⟨b, off + i * 3 + t, none⟩).isSome = true ∧ w.drew.frozen? ⟨b, off + i * 3 + t, none⟩ = false) := by
    intro t ht
    rw [hlen] at ht
    rw [Nat.add_assoc]
    exact hc (i * 3 + t) (by omega)
  obtain ⟨W1, hW1⟩ : ∃ W1, W1 = w.drew.setCells b (off + i * 3) news := ⟨_, rfl⟩
  have hc1 : ∀ t, t < (n - (i + (n - j))) * 3 → (W1.cell? ⟨b, off + (i + (n - j)) * 3 + t, none⟩).isSome = true := by
    intro t ht
    rw [hW1, World.cell?_setCells_out b news _ _ _ (fun _ _ => .inr (by simp only [hlen]; omega))]
    have := (hc ((i + (n - j)) * 3 + t) (by omega)).1
    rwa [← Nat.add_assoc] at this
  have hf1 : ∀ t, t < (n - (i + (n - j))) * 3 → W1.frozen? ⟨b, off + (i + (n - j)) * 3 + t, none⟩ = false := by
    intro t ht
    rw [hW1, World.frozen?_setCells]
    have := (hc ((i + (n - j)) * 3 + t) (by omega)).2
    rwa [← Nat.add_assoc] at this
  have hcl : ∀ ty, (Builtin.clear_ #[29] ty #[.slice (some ⟨b, off + (i + (n - j)) * 3, none⟩) (n - (i + (n - j))) (cap - (i + (n - j)))]).run Go.Proofs.Tryz.prog W1 = .ok (.tuple #[]) (W1.setCells b (off + (i + (n - j)) * 3) (List.replicate ((n - (i + (n - j))) * 3) (.int .i64 0))) :=
    fun ty => run_clear3 W1 _ _ ty (.agg #[.int .i64 0, .int .i64 0, .int .i64 0]) Go.Proofs.Tryz.underlying29 (fun w => by kernel_rfl) rfl b _ _ _ (by omega) hc1 hf1
  have hW : Hid (W1 = w.drew.setCells b (off + i * 3) news) := hW1
  have hic : i ≤ cap := by omega
  have hjc : j ≤ cap := by omega
  clear hW1 hc1 hf1 hc hsrc hone hlen
  go_enter Go.Proofs.Tryz.func40, Go.Proofs.Tryz.ntmps40
  go_wp2_with fail
  go_region_law (refine step_append_room rfl (.tmp 22) (.tmp 25) 29 rfl 55 i0 3 Go.Proofs.Tryz.underlying29 hi0 hz1 b off i cap (by simp [Act.eval, Act.put]) A (n - j) (cap - j) news (by simp [Act.eval, Act.put]) s1.out hnews.out s2.out (by omega) s3.out ?_; rw [← hW.out])
  go_wp2
  go_ret
  refine ⟨by rw [show n - (j - i) = i + (n - j) by omega]; rfl, ?_⟩
  rw [show n - (i + (n - j)) = j - i by omega, ← hW.out]
theorem rel_three {m : Emb} {args : Array Value} {x y z : AV} (h : RelL F m [x, y, z] args.toList) : ∃ u v t, args = #[u, v, t] ∧ RelV F m x u ∧ RelV F m y v ∧ RelV F m z t := by
  simp only [RelL] at h
  obtain ⟨u, l, e1, h1, v, l2, rfl, h2, t, l3, rfl, h3, rfl⟩ := h
  exact ⟨u, v, t, by rw [← Array.toArray_toList (xs := args), e1], h1, h2, h3⟩
theorem x_Delete3 : ExtAtW Go.Proofs.Tryz.prog F 220 xDelete3 := by
  intro xs h r h' hr
  unfold xDelete3 at hr
  split at hr
  · rename_i hh c k off n e i j
    split at hr
    · rename_i hcond
      obtain ⟨rfl, hi0, hij, hj, hm⟩ := hcond
      split at hr
      · rename_i cs hcs
        split at hr
        · rename_i h1 hw1
          split at hr
          · rename_i h2 hw2
            simp only [Option.some.injEq, Prod.mk.injEq] at hr
            obtain ⟨rfl, rfl⟩ := hr
            refine ⟨by decide +kernel, fun base m w args hrel hx => ?_⟩
            obtain ⟨u, v, t, rfl, g1, g2, g3⟩ := rel_three hx
            obtain ⟨i, rfl⟩ : ∃ a : Nat, i = a := ⟨i.toNat, by omega⟩
            obtain ⟨j, rfl⟩ : ∃ a : Nat, j = a := ⟨j.toNat, by omega⟩
            simp only [Int.toNat_natCast] at *
            rw [rel_int g2, rel_int g3]
            simp only [RelV] at g1
            obtain ⟨p, o, cap, hp, rfl, hcap, hpl⟩ := g1
            rcases hpl with rfl | ⟨q1, rfl, q3, q4⟩
            · omega
            have hijN : i < j := by omega
            have hjN : j ≤ n := by omega
            obtain ⟨news, n1, n2, n3⟩ := hrel.row_at hcs hp (by omega) (by omega)
            have hsc : cs.all AV.sc = true := by
              unfold wrRow at hw1
              split at hw1
              · split at hw1
                · rename_i hq; exact hq.2.2.2
                · cases hw1
              · cases hw1
            have hone : ∀ u ∈ news, u.oneCell' = true := by
              intro u hu
              obtain ⟨a, ha⟩ := List.mem_iff_getElem?.1 hu
              have hlt := (List.getElem?_eq_some_iff.1 ha).1
              have hla := n1.length
              obtain ⟨v', hv', hxv⟩ := n1.get a (cs[a]'(by omega)) (by simp)
              rw [ha] at hv'; cases hv'
              exact hxv.one (List.all_eq_true.1 hsc _ (by simp))
            have hlc := n1.length
            obtain ⟨cs0, ver, fl, hc0, hkv, hfl, hbd⟩ : ∃ cs0 ver fl, h[c]? = some (.row cs0 ver fl false) ∧ k = ver ∧ fl ≤ ver ∧ True := by
              unfold wrRow at hw1
              split at hw1
              · rename_i cs0 ver fl hc0
                split at hw1
                · rename_i hq; exact ⟨cs0, ver, fl, hc0, hq.1, hq.2.1, trivial⟩
                · cases hw1
              · cases hw1
            have hcell : ∀ t, t < n * 3 → (w.cell? ⟨p.blk, p.base + (off - p.lo) + t, none⟩).isSome = true ∧ w.frozen? ⟨p.blk, p.base + (off - p.lo) + t, none⟩ = false := by
              subst hkv
              obtain ⟨_, b2, b3, b4, C, ee, fr, hg, hs, hb, hf, _⟩ := hrel.ob c _ hc0 k p hp hfl
              intro t ht
              have hlt : p.base + (off - p.lo) + t < C.size := by omega
              have hf' := hf rfl
              constructor
              · simp only [World.cell?, hg, Option.isSome_none, Bool.false_eq_true, if_false]
                rw [Array.getElem?_eq_getElem hlt]; rfl
              · simp only [World.frozen?, hg]
                rcases hf' with h | h
                · simp; omega
                · simp; omega
            have hsrc : ∀ (t : Nat) u, news[t]? = some u → w.cell? ⟨p.blk, p.base + (off - p.lo) + j * 3 + t, none⟩ = some u := by
              intro t u hu
              have := n3 t u hu
              rwa [show p.base + (off + j * 3 - p.lo) = p.base + (off - p.lo) + j * 3 by omega] at this
            refine (del_walk p.blk (p.base + (off - p.lo)) n cap i j news w hijN hjN hcap hm n2 hone hsrc hcell).mono ?_
            rintro e w' ⟨rfl, rfl⟩
            refine ⟨_, m, rfl, ?_, ?_⟩
            · simp only [RelV]
              exact ⟨p, _, cap, hp, rfl, by omega, .inr ⟨q1, rfl, by omega, q4⟩⟩
            · have st0 : StepR F base m h w m h w.drew := StepR.draw hrel rfl rfl rfl rfl
              have st1 := wr_set (P := Go.Proofs.Tryz.prog) st0.rel hw1 hp (by omega) (by omega) n1 hone
              rw [show p.base + (off + i * 3 - p.lo) = p.base + (off - p.lo) + i * 3 by omega] at st1
              have hz : RelL F m (List.replicate ((j - i) * 3) (.int .i64 0)) (List.replicate ((j - i) * 3) (.int .i64 0)) := by
                refine RelL.of (by simp) ?_
                intro a x v hx hv
                rw [List.getElem?_replicate] at hx hv
                split at hx
                · cases hx
                  rename_i hlt
                  rw [if_pos hlt] at hv; cases hv
                  simp only [RelV]
                · cases hx
              have st2 := wr_set (P := Go.Proofs.Tryz.prog) st1.rel hw2 hp (by omega) (by simp only [List.length_replicate]; omega) hz (by intro v hv; rw [List.eq_of_mem_replicate hv]; rfl)
              rw [show p.base + (off + (i + (n - j)) * 3 - p.lo) = p.base + (off - p.lo) + (i + (n - j)) * 3 by omega] at st2
              exact st0.trans (st1.trans st2)
          · cases hr
        · cases hr
      · cases hr
    · cases hr
  · cases hr
end Go.Proofs.YtmlmfjjfciiblaaGreatDoor.Ab

/-
  DERIVED: THE SHELF's CONTRACTS AT THIS DUMP, IN PLAIN WORDS (tools/lay-plain.mjs out of 'TryzShelf.lean', which tools/lay-shelf.mjs wrote): THE SAME DECLARATIONS UNDER THE SAME NAMES: 'import', 'namespace', 'open', 'def', 'theorem' AND NOTHING ELSE: no command of the shelf's: FOR A HAND-IN. Each laying: the table of numbers ('.._ren') and one theorem, a field a fact of the dump's own or the kernel's comparison; each contract: ONE APPLICATION.
-/
namespace Go.Proofs
open Go.Shelf
def Tryz.lays231_ren : Go.Shelf.Ren := ⟨fun | 231 => 68 | n => n, fun | 9 => 9 | 5 => 5 | 3 => 3 | 4 => 4 | n => n, fun | n => n⟩
theorem Tryz.lays231 : Go.Proofs.Lays.n231 Tryz.prog Tryz.lays231_ren := {
  mixed := by kernel_rfl
  f231 := Tryz.func68.trans (congrArg some (by kernel_rfl))
  t3 := Tryz.underlying3
  a3 := Tryz.isAgg3
  z3 := Tryz.sizeOf3
  v3 := Tryz.zeroValue3
  t4 := Tryz.underlying4
  a4 := Tryz.isAgg4
  z4 := Tryz.sizeOf4
  v4 := Tryz.zeroValue4
  t5 := Tryz.underlying5
  a5 := Tryz.isAgg5
  z5 := Tryz.sizeOf5
  v5 := Tryz.zeroValue5
  t9 := Tryz.underlying9
  a9 := Tryz.isAgg9
  z9 := Tryz.sizeOf9
  v9 := Tryz.zeroValue9 }
open Go.RowKit in
/-- strings.trimLeftByte (no doc; what TrimLeft and Trim call at a cutset of one ASCII byte): the leading bytes that are c are cut off. The world is as it was. (LAID: no walk: one application.) -/
theorem Tryz.strings_trimLeftByte (s : ByteArray) (c : UInt8) (w : World) :
    Calls Tryz.prog 68 #[.string s, .int .u8 c.toNat] w fun e w' => e = .returned (.string ⟨(Lib.trimLeftB s.data.toList c).toArray⟩) ∧ w' = w := Any.strings_trimLeftByte Tryz.lays231 s c w
def Tryz.lays232_ren : Go.Shelf.Ren := ⟨fun | 232 => 69 | n => n, fun | 9 => 9 | 5 => 5 | 3 => 3 | 4 => 4 | n => n, fun | n => n⟩
theorem Tryz.lays232 : Go.Proofs.Lays.n232 Tryz.prog Tryz.lays232_ren := {
  mixed := by kernel_rfl
  f232 := Tryz.func69.trans (congrArg some (by kernel_rfl))
  t3 := Tryz.underlying3
  a3 := Tryz.isAgg3
  z3 := Tryz.sizeOf3
  v3 := Tryz.zeroValue3
  t4 := Tryz.underlying4
  a4 := Tryz.isAgg4
  z4 := Tryz.sizeOf4
  v4 := Tryz.zeroValue4
  t5 := Tryz.underlying5
  a5 := Tryz.isAgg5
  z5 := Tryz.sizeOf5
  v5 := Tryz.zeroValue5
  t9 := Tryz.underlying9
  a9 := Tryz.isAgg9
  z9 := Tryz.sizeOf9
  v9 := Tryz.zeroValue9 }
open Go.RowKit in
/-- strings.trimRightByte (no doc; what TrimRight and Trim call at a cutset of one ASCII byte): the trailing bytes that are c are cut off. The world is as it was. ('hs': a string's length is a number that an int holds.) (LAID: no walk: one application.) -/
theorem Tryz.strings_trimRightByte (s : ByteArray) (c : UInt8) (w : World) (hs : s.size ≤ 9223372036854775807) :
    Calls Tryz.prog 69 #[.string s, .int .u8 c.toNat] w fun e w' => e = .returned (.string ⟨(Lib.trimRightB s.data.toList c).toArray⟩) ∧ w' = w := Any.strings_trimRightByte Tryz.lays232 s c w hs
def Tryz.lays160_ren : Go.Shelf.Ren := ⟨fun | 160 => 54 | 232 => 69 | 231 => 68 | 227 => 70 | 234 => 72 | 233 => 71 | 236 => 74 | 235 => 73 | 228 => 83 | 271 => 86 | 151 => 85 | 197 => 84 | 120 => 105 | 152 => 104 | 260 => 103 | 137 => 56 | 119 => 110 | 224 => 94 | 225 => 93 | 217 => 76 | 266 => 89 | n => n, fun | 9 => 9 | 4 => 4 | 3 => 3 | 5 => 5 | 117 => 97 | 116 => 96 | 0 => 0 | 124 => 100 | 21 => 21 | 105 => 113 | 46 => 120 | 119 => 135 | 139 => 138 | 138 => 137 | n => n, fun | 3 => 1 | 4 => 2 | n => n⟩
theorem Tryz.lays160 : Go.Proofs.Lays.n160 Tryz.prog Tryz.lays160_ren := {
  mixed := by kernel_rfl
  f119 := Tryz.func110.trans (congrArg some (by kernel_rfl))
  f120 := Tryz.func105.trans (congrArg some (by kernel_rfl))
  f137 := Tryz.func56.trans (congrArg some (by kernel_rfl))
  f151 := Tryz.func85.trans (congrArg some (by kernel_rfl))
  f152 := Tryz.func104.trans (congrArg some (by kernel_rfl))
  f160 := Tryz.func54.trans (congrArg some (by kernel_rfl))
  f197 := Tryz.func84.trans (congrArg some (by kernel_rfl))
  f217 := Tryz.func76.trans (congrArg some (by kernel_rfl))
  f224 := Tryz.func94.trans (congrArg some (by kernel_rfl))
  f225 := Tryz.func93.trans (congrArg some (by kernel_rfl))
  f227 := Tryz.func70.trans (congrArg some (by kernel_rfl))
  f228 := Tryz.func83.trans (congrArg some (by kernel_rfl))
  f231 := Tryz.func68.trans (congrArg some (by kernel_rfl))
  f232 := Tryz.func69.trans (congrArg some (by kernel_rfl))
  f233 := Tryz.func71.trans (congrArg some (by kernel_rfl))
  f234 := Tryz.func72.trans (congrArg some (by kernel_rfl))
  f235 := Tryz.func73.trans (congrArg some (by kernel_rfl))
  f236 := Tryz.func74.trans (congrArg some (by kernel_rfl))
  f260 := Tryz.func103.trans (congrArg some (by kernel_rfl))
  f266 := Tryz.func89.trans (congrArg some (by kernel_rfl))
  f271 := Tryz.func86.trans (congrArg some (by kernel_rfl))
  t0 := Tryz.underlying0
  a0 := Tryz.isAgg0
  z0 := Tryz.sizeOf0
  v0 := Tryz.zeroValue0
  t3 := Tryz.underlying3
  a3 := Tryz.isAgg3
  z3 := Tryz.sizeOf3
  v3 := Tryz.zeroValue3
  t4 := Tryz.underlying4
  a4 := Tryz.isAgg4
  z4 := Tryz.sizeOf4
  v4 := Tryz.zeroValue4
  t5 := Tryz.underlying5
  a5 := Tryz.isAgg5
  z5 := Tryz.sizeOf5
  v5 := Tryz.zeroValue5
  t9 := Tryz.underlying9
  a9 := Tryz.isAgg9
  z9 := Tryz.sizeOf9
  v9 := Tryz.zeroValue9
  t21 := Tryz.underlying21
  a21 := Tryz.isAgg21
  z21 := Tryz.sizeOf21
  v21 := Tryz.zeroValue21
  t46 := Tryz.underlying120
  a46 := Tryz.isAgg120
  z46 := Tryz.sizeOf120
  v46 := Tryz.zeroValue120
  t105 := Tryz.underlying113
  a105 := Tryz.isAgg113
  z105 := Tryz.sizeOf113
  v105 := Tryz.zeroValue113
  t116 := Tryz.underlying96
  a116 := Tryz.isAgg96
  z116 := Tryz.sizeOf96
  t117 := Tryz.underlying97
  a117 := Tryz.isAgg97
  z117 := Tryz.sizeOf97
  v117 := Tryz.zeroValue97
  t119 := Tryz.underlying135
  a119 := Tryz.isAgg135
  z119 := Tryz.sizeOf135
  t124 := Tryz.underlying100
  a124 := Tryz.isAgg100
  z124 := Tryz.sizeOf100
  v124 := Tryz.zeroValue100
  t138 := Tryz.underlying137
  a138 := Tryz.isAgg137
  z138 := Tryz.sizeOf137
  v138 := Tryz.zeroValue137
  t139 := Tryz.underlying138
  a139 := Tryz.isAgg138
  z139 := Tryz.sizeOf138
  v139 := Tryz.zeroValue138
  g3 := by kernel_rfl
  g4 := by kernel_rfl }
open Go.RowKit in
/-- strings.Trim: "Trim returns a slice of the string s with all leading and trailing Unicode code points contained in cutset removed.": AT A cutset OF ONE ASCII BYTE. THE WORLD BEHIND IT: as it was, or (where s is not empty) with ONE DRAW MORE off the tape: the statement 'return trimLeftByte(trimRightByte(s, c), c)' draws its order of evaluation. (LAID: no walk: one application.) -/
theorem Tryz.strings_Trim_one (s : ByteArray) (c : UInt8) (hc : c.toNat < 128) (w : World) (hs : s.size ≤ 9223372036854775807) :
    Calls Tryz.prog 54 #[.string s, .string ⟨#[c]⟩] w fun e w' => e = .returned (.string ⟨(Lib.trimB s.data.toList c).toArray⟩) ∧ (w' = w ∨ w' = w.drew) := Any.strings_Trim_one Tryz.lays160 s c hc w hs
def Tryz.lays119_ren : Go.Shelf.Ren := ⟨fun | 119 => 110 | n => n, fun | 21 => 21 | 4 => 4 | n => n, fun | n => n⟩
theorem Tryz.lays119 : Go.Proofs.Lays.n119 Tryz.prog Tryz.lays119_ren := {
  mixed := by kernel_rfl
  f119 := Tryz.func110.trans (congrArg some (by kernel_rfl))
  t4 := Tryz.underlying4
  a4 := Tryz.isAgg4
  z4 := Tryz.sizeOf4
  v4 := Tryz.zeroValue4
  t21 := Tryz.underlying21
  a21 := Tryz.isAgg21
  z21 := Tryz.sizeOf21
  v21 := Tryz.zeroValue21 }
/-- utf8.ValidRune: "ValidRune reports whether r can be legally encoded as UTF-8. Code points that are out of range or a surrogate half are illegal.": IT RETURNS 'Lib.validRune r'; the world is as it was. (LAID: no walk: one application.) -/
theorem Tryz.utf8_ValidRune (r : Int) (w : World) :
    Calls Tryz.prog 110 #[.int .i32 r] w fun e w' => e = .returned (.bool (Lib.validRune r)) ∧ w' = w := Any.utf8_ValidRune Tryz.lays119 r w
def Tryz.lays120_ren : Go.Shelf.Ren := ⟨fun | 120 => 105 | n => n, fun | 5 => 5 | 4 => 4 | n => n, fun | n => n⟩
theorem Tryz.lays120 : Go.Proofs.Lays.n120 Tryz.prog Tryz.lays120_ren := {
  mixed := by kernel_rfl
  f120 := Tryz.func105.trans (congrArg some (by kernel_rfl))
  t4 := Tryz.underlying4
  a4 := Tryz.isAgg4
  z4 := Tryz.sizeOf4
  v4 := Tryz.zeroValue4
  t5 := Tryz.underlying5
  a5 := Tryz.isAgg5
  z5 := Tryz.sizeOf5
  v5 := Tryz.zeroValue5 }
/-- utf8.RuneStart: "RuneStart reports whether the byte could be the first byte of an encoded, possibly invalid rune. Second and subsequent bytes always have the top two bits set to 10.": IT RETURNS 'Lib.runeStart b'; the world is as it was. ('h0', 'h1': b is a byte: a caller has it of every byte that it was handed.) (LAID: no walk: one application.) -/
theorem Tryz.utf8_RuneStart (b : Int) (w : World) (h0 : 0 ≤ b) (h1 : b < 256) :
    Calls Tryz.prog 105 #[.int .u8 b] w fun e w' => e = .returned (.bool (Lib.runeStart b)) ∧ w' = w := Any.utf8_RuneStart Tryz.lays120 b w h0 h1
def Tryz.lays137_ren : Go.Shelf.Ren := ⟨fun | 137 => 56 | 217 => 76 | 266 => 89 | n => n, fun | 9 => 9 | 5 => 5 | 3 => 3 | n => n, fun | n => n⟩
theorem Tryz.lays137 : Go.Proofs.Lays.n137 Tryz.prog Tryz.lays137_ren := {
  mixed := by kernel_rfl
  f137 := Tryz.func56.trans (congrArg some (by kernel_rfl))
  f217 := Tryz.func76.trans (congrArg some (by kernel_rfl))
  f266 := Tryz.func89.trans (congrArg some (by kernel_rfl))
  t3 := Tryz.underlying3
  a3 := Tryz.isAgg3
  z3 := Tryz.sizeOf3
  v3 := Tryz.zeroValue3
  t5 := Tryz.underlying5
  a5 := Tryz.isAgg5
  z5 := Tryz.sizeOf5
  v5 := Tryz.zeroValue5
  t9 := Tryz.underlying9
  a9 := Tryz.isAgg9
  z9 := Tryz.sizeOf9
  v9 := Tryz.zeroValue9 }
open Go.RowKit in
/-- strings.IndexByte: "IndexByte returns the index of the first instance of c in s, or -1 if c is not present in s.": IT RETURNS 'Lib.indexByte s c'; the world is as it was. (LAID: no walk: one application.) -/
theorem Tryz.strings_IndexByte (s : ByteArray) (c : Int) (w : World) :
    Calls Tryz.prog 56 #[.string s, .int .u8 c] w fun e w' => e = .returned (.int .i64 (Lib.indexByte s.data.toList c.toNat.toUInt8)) ∧ w' = w := Any.strings_IndexByte Tryz.lays137 s c w
def Tryz.lays195_ren : Go.Shelf.Ren := ⟨fun | 195 => 87 | n => n, fun | 9 => 9 | 3 => 3 | 0 => 0 | 4 => 4 | n => n, fun | n => n⟩
theorem Tryz.lays195 : Go.Proofs.Lays.n195 Tryz.prog Tryz.lays195_ren := {
  mixed := by kernel_rfl
  f195 := Tryz.func87.trans (congrArg some (by kernel_rfl))
  t0 := Tryz.underlying0
  a0 := Tryz.isAgg0
  z0 := Tryz.sizeOf0
  v0 := Tryz.zeroValue0
  t3 := Tryz.underlying3
  a3 := Tryz.isAgg3
  z3 := Tryz.sizeOf3
  v3 := Tryz.zeroValue3
  t4 := Tryz.underlying4
  a4 := Tryz.isAgg4
  z4 := Tryz.sizeOf4
  v4 := Tryz.zeroValue4
  t9 := Tryz.underlying9
  a9 := Tryz.isAgg9
  z9 := Tryz.sizeOf9
  v9 := Tryz.zeroValue9 }
open Go.RowKit in
/-- unicode/utf8.RuneCountInString: "RuneCountInString is like RuneCount but its input is a string." ("RuneCount returns the number of runes in p. Erroneous and short encodings are treated as single runes of width 1 byte."): EVERY STRING, valid UTF-8 or not: 'Lib.runeCount s' (plain Lean over the model's own 'Utf8.decode'; 'Lib.runeCount_le': at most len(s); 'Lib.runeCount_ascii': on ASCII: len(s)). THE ONE CONDITION: len(s) below 2^63 - 1 (the counter does not wrap): the form's reach pays it. THE WORLD BEHIND THE CALL: ONE BLOCK MORE: the model's iterator over s, at its end: all else as it was. (LAID: no walk: one application.) -/
theorem Tryz.utf8_RuneCountInString (s : ByteArray) (w : World) (hs : s.size < 9223372036854775807) :
    Calls Tryz.prog 87 #[.string s] w fun e w' => e = .returned (.int .i64 (Lib.runeCount s)) ∧ ∃ pos, w' = w.iter s pos := Any.utf8_RuneCountInString Tryz.lays195 s w hs
def Tryz.lays217_ren : Go.Shelf.Ren := ⟨fun | 217 => 76 | 266 => 89 | n => n, fun | 9 => 9 | 5 => 5 | 3 => 3 | n => n, fun | n => n⟩
theorem Tryz.lays217 : Go.Proofs.Lays.n217 Tryz.prog Tryz.lays217_ren := {
  mixed := by kernel_rfl
  f217 := Tryz.func76.trans (congrArg some (by kernel_rfl))
  f266 := Tryz.func89.trans (congrArg some (by kernel_rfl))
  t3 := Tryz.underlying3
  a3 := Tryz.isAgg3
  z3 := Tryz.sizeOf3
  v3 := Tryz.zeroValue3
  t5 := Tryz.underlying5
  a5 := Tryz.isAgg5
  z5 := Tryz.sizeOf5
  v5 := Tryz.zeroValue5
  t9 := Tryz.underlying9
  a9 := Tryz.isAgg9
  z9 := Tryz.sizeOf9
  v9 := Tryz.zeroValue9 }
open Go.RowKit Go.Lib in
/-- internal/stringslite.IndexByte (what strings.IndexByte calls): IT RETURNS 'Lib.indexByte s c'; the world is as it was. (LAID: no walk: one application.) -/
theorem Tryz.stringslite_IndexByte (s : ByteArray) (c : Int) (w : World) :
    Calls Tryz.prog 76 #[.string s, .int .u8 c] w fun e w' => e = .returned (.int .i64 (Lib.indexByte s.data.toList c.toNat.toUInt8)) ∧ w' = w := Any.stringslite_IndexByte Tryz.lays217 s c w
def Tryz.lays224_ren : Go.Shelf.Ren := ⟨fun | 224 => 94 | n => n, fun | 3 => 3 | n => n, fun | n => n⟩
theorem Tryz.lays224 : Go.Proofs.Lays.n224 Tryz.prog Tryz.lays224_ren := {
  mixed := by kernel_rfl
  f224 := Tryz.func94.trans (congrArg some (by kernel_rfl))
  t3 := Tryz.underlying3
  a3 := Tryz.isAgg3
  z3 := Tryz.sizeOf3
  v3 := Tryz.zeroValue3 }
open Go.RowKit Go.Lib in
/-- internal/bytealg.Cutover: "Cutover reports the number of failures of IndexByte we should tolerate before switching over to Index. n is the number of bytes processed so far.": on amd64: (n + 16) / 8. (LAID: no walk: one application.) -/
theorem Tryz.bytealg_Cutover (n : Int) (h0 : 0 ≤ n) (h1 : n < 4611686018427387904) (w : World) :
    Calls Tryz.prog 94 #[.int .i64 n] w fun e w' => e = .returned (.int .i64 ((n + 16) / 8)) ∧ w' = w := Any.bytealg_Cutover Tryz.lays224 n h0 h1 w
def Tryz.lays314_ren : Go.Shelf.Ren := ⟨fun | 314 => 106 | n => n, fun | 9 => 9 | 51 => 128 | 3 => 3 | 4 => 4 | 5 => 5 | 46 => 120 | n => n, fun | n => n⟩
theorem Tryz.lays314 : Go.Proofs.Lays.n314 Tryz.prog Tryz.lays314_ren := {
  mixed := by kernel_rfl
  f314 := Tryz.func106.trans (congrArg some (by kernel_rfl))
  t3 := Tryz.underlying3
  a3 := Tryz.isAgg3
  z3 := Tryz.sizeOf3
  v3 := Tryz.zeroValue3
  t4 := Tryz.underlying4
  a4 := Tryz.isAgg4
  z4 := Tryz.sizeOf4
  v4 := Tryz.zeroValue4
  t5 := Tryz.underlying5
  a5 := Tryz.isAgg5
  z5 := Tryz.sizeOf5
  v5 := Tryz.zeroValue5
  t9 := Tryz.underlying9
  a9 := Tryz.isAgg9
  z9 := Tryz.sizeOf9
  v9 := Tryz.zeroValue9
  t46 := Tryz.underlying120
  a46 := Tryz.isAgg120
  z46 := Tryz.sizeOf120
  v46 := Tryz.zeroValue120
  t51 := Tryz.underlying128
  a51 := Tryz.isAgg128
  z51 := Tryz.sizeOf128
  v51 := Tryz.zeroValue128 }
open Go.RowKit Go.Lib in
/-- hashStr: "returns the hash and the appropriate multiplicative factor for use in Rabin-Karp algorithm": THE HASH OF ALL OF sep, AND 16777619 ^ len(sep), both in uint32. (LAID: no walk: one application.) -/
theorem Tryz.bytealg_hashStr (sep : ByteArray) (hs : sep.size < 4294967281) (w : World) :
    Calls Tryz.prog 106 #[.string sep] w fun e w' => e = .returned (.tuple #[.int .u32 (RK.H sep.data.toList % 4294967296), .int .u32 (16777619 ^ sep.size % 4294967296)]) ∧ w' = w := Any.bytealg_hashStr Tryz.lays314 sep hs w
def Tryz.lays267_ren : Go.Shelf.Ren := ⟨fun | 267 => 95 | 314 => 106 | n => n, fun | 9 => 9 | 3 => 3 | 146 => 129 | 51 => 128 | 4 => 4 | 5 => 5 | 46 => 120 | n => n, fun | n => n⟩
theorem Tryz.lays267 : Go.Proofs.Lays.n267 Tryz.prog Tryz.lays267_ren := {
  mixed := by kernel_rfl
  f267 := Tryz.func95.trans (congrArg some (by kernel_rfl))
  f314 := Tryz.func106.trans (congrArg some (by kernel_rfl))
  t3 := Tryz.underlying3
  a3 := Tryz.isAgg3
  z3 := Tryz.sizeOf3
  v3 := Tryz.zeroValue3
  t4 := Tryz.underlying4
  a4 := Tryz.isAgg4
  z4 := Tryz.sizeOf4
  v4 := Tryz.zeroValue4
  t5 := Tryz.underlying5
  a5 := Tryz.isAgg5
  z5 := Tryz.sizeOf5
  v5 := Tryz.zeroValue5
  t9 := Tryz.underlying9
  a9 := Tryz.isAgg9
  z9 := Tryz.sizeOf9
  v9 := Tryz.zeroValue9
  t46 := Tryz.underlying120
  a46 := Tryz.isAgg120
  z46 := Tryz.sizeOf120
  v46 := Tryz.zeroValue120
  t51 := Tryz.underlying128
  a51 := Tryz.isAgg128
  z51 := Tryz.sizeOf128
  v51 := Tryz.zeroValue128
  t146 := Tryz.underlying129
  a146 := Tryz.isAgg129
  z146 := Tryz.sizeOf129
  v146 := Tryz.zeroValue129 }
open Go.RowKit Go.Lib in
theorem Tryz.bytealg_IndexRabinKarp (s sep : ByteArray) (h1 : 1 ≤ sep.size) (h2 : sep.size ≤ s.size) (hs : s.size < 4294967281) (w : World) :
    Calls Tryz.prog 95 #[.string s, .string sep] w fun e w' => e = .returned (.int .i64 (Lib.index s.data.toList sep.data.toList)) ∧ w' = w := Any.bytealg_IndexRabinKarp Tryz.lays267 s sep h1 h2 hs w
def Tryz.lays219_ren : Go.Shelf.Ren := ⟨fun | 219 => 79 | 217 => 76 | 225 => 93 | 224 => 94 | 267 => 95 | 266 => 89 | 314 => 106 | n => n, fun | 9 => 9 | 3 => 3 | 4 => 4 | 5 => 5 | 46 => 120 | 146 => 129 | 51 => 128 | n => n, fun | 1 => 0 | n => n⟩
theorem Tryz.lays219 : Go.Proofs.Lays.n219 Tryz.prog Tryz.lays219_ren := {
  mixed := by kernel_rfl
  f217 := Tryz.func76.trans (congrArg some (by kernel_rfl))
  f219 := Tryz.func79.trans (congrArg some (by kernel_rfl))
  f224 := Tryz.func94.trans (congrArg some (by kernel_rfl))
  f225 := Tryz.func93.trans (congrArg some (by kernel_rfl))
  f266 := Tryz.func89.trans (congrArg some (by kernel_rfl))
  f267 := Tryz.func95.trans (congrArg some (by kernel_rfl))
  f314 := Tryz.func106.trans (congrArg some (by kernel_rfl))
  t3 := Tryz.underlying3
  a3 := Tryz.isAgg3
  z3 := Tryz.sizeOf3
  v3 := Tryz.zeroValue3
  t4 := Tryz.underlying4
  a4 := Tryz.isAgg4
  z4 := Tryz.sizeOf4
  v4 := Tryz.zeroValue4
  t5 := Tryz.underlying5
  a5 := Tryz.isAgg5
  z5 := Tryz.sizeOf5
  v5 := Tryz.zeroValue5
  t9 := Tryz.underlying9
  a9 := Tryz.isAgg9
  z9 := Tryz.sizeOf9
  v9 := Tryz.zeroValue9
  t46 := Tryz.underlying120
  a46 := Tryz.isAgg120
  z46 := Tryz.sizeOf120
  v46 := Tryz.zeroValue120
  t51 := Tryz.underlying128
  a51 := Tryz.isAgg128
  z51 := Tryz.sizeOf128
  v51 := Tryz.zeroValue128
  t146 := Tryz.underlying129
  a146 := Tryz.isAgg129
  z146 := Tryz.sizeOf129
  v146 := Tryz.zeroValue129
  g1 := by kernel_rfl }
open Go.RowKit Go.Lib in
/-- internal/stringslite.Index (what strings.Index calls) AT A substr OF ONE BYTE c: IT RETURNS 'Lib.indexByte s c'; the world is as it was. (LAID: no walk: one application.) -/
theorem Tryz.stringslite_Index_one (s : ByteArray) (c : UInt8) (w : World) :
    Calls Tryz.prog 79 #[.string s, .string ⟨#[c]⟩] w fun e w' => e = .returned (.int .i64 (Lib.indexByte s.data.toList c)) ∧ w' = w := Any.stringslite_Index_one Tryz.lays219 s c w
open Go.RowKit Go.Lib in
/-- internal/stringslite.Index (what strings.Index calls) AT A substr OF WHATEVER LENGTH: IT RETURNS 'Lib.index s substr'; the world is as it was. 'm': what internal/bytealg.MaxLen holds: whatever. (LAID: no walk: one application.) -/
theorem Tryz.stringslite_Index (s sub : ByteArray) (m : Int) (w : World) (hs : s.size < 4294967281) (hm : w.cell? ⟨0, 0, none⟩ = some (.int .i64 m)) :
    Calls Tryz.prog 79 #[.string s, .string sub] w fun e w' => e = .returned (.int .i64 (Lib.index s.data.toList sub.data.toList)) ∧ w' = w := Any.stringslite_Index Tryz.lays219 s sub m w hs hm
def Tryz.lays143_ren : Go.Shelf.Ren := ⟨fun | 143 => 59 | 219 => 79 | 217 => 76 | 225 => 93 | 224 => 94 | 267 => 95 | 266 => 89 | 314 => 106 | n => n, fun | 9 => 9 | 3 => 3 | 4 => 4 | 5 => 5 | 46 => 120 | 146 => 129 | 51 => 128 | n => n, fun | 1 => 0 | n => n⟩
theorem Tryz.lays143 : Go.Proofs.Lays.n143 Tryz.prog Tryz.lays143_ren := {
  mixed := by kernel_rfl
  f143 := Tryz.func59.trans (congrArg some (by kernel_rfl))
  f217 := Tryz.func76.trans (congrArg some (by kernel_rfl))
  f219 := Tryz.func79.trans (congrArg some (by kernel_rfl))
  f224 := Tryz.func94.trans (congrArg some (by kernel_rfl))
  f225 := Tryz.func93.trans (congrArg some (by kernel_rfl))
  f266 := Tryz.func89.trans (congrArg some (by kernel_rfl))
  f267 := Tryz.func95.trans (congrArg some (by kernel_rfl))
  f314 := Tryz.func106.trans (congrArg some (by kernel_rfl))
  t3 := Tryz.underlying3
  a3 := Tryz.isAgg3
  z3 := Tryz.sizeOf3
  v3 := Tryz.zeroValue3
  t4 := Tryz.underlying4
  a4 := Tryz.isAgg4
  z4 := Tryz.sizeOf4
  v4 := Tryz.zeroValue4
  t5 := Tryz.underlying5
  a5 := Tryz.isAgg5
  z5 := Tryz.sizeOf5
  v5 := Tryz.zeroValue5
  t9 := Tryz.underlying9
  a9 := Tryz.isAgg9
  z9 := Tryz.sizeOf9
  v9 := Tryz.zeroValue9
  t46 := Tryz.underlying120
  a46 := Tryz.isAgg120
  z46 := Tryz.sizeOf120
  v46 := Tryz.zeroValue120
  t51 := Tryz.underlying128
  a51 := Tryz.isAgg128
  z51 := Tryz.sizeOf128
  v51 := Tryz.zeroValue128
  t146 := Tryz.underlying129
  a146 := Tryz.isAgg129
  z146 := Tryz.sizeOf129
  v146 := Tryz.zeroValue129
  g1 := by kernel_rfl }
open Go.RowKit Go.Lib in
/-- strings.Index: "Index returns the index of the first instance of substr in s, or -1 if substr is not present in s.": AT A substr OF ONE BYTE c: IT RETURNS 'Lib.indexByte s c'; the world is as it was. (LAID: no walk: one application.) -/
theorem Tryz.strings_Index_one (s : ByteArray) (c : UInt8) (w : World) :
    Calls Tryz.prog 59 #[.string s, .string ⟨#[c]⟩] w fun e w' => e = .returned (.int .i64 (Lib.indexByte s.data.toList c)) ∧ w' = w := Any.strings_Index_one Tryz.lays143 s c w
open Go.RowKit Go.Lib in
/-- strings.Index: "Index returns the index of the first instance of substr in s, or -1 if substr is not present in s.": IT RETURNS 'Lib.index s substr'; the world is as it was. (LAID: no walk: one application.) -/
theorem Tryz.strings_Index (s sub : ByteArray) (m : Int) (w : World) (hs : s.size < 4294967281) (hm : w.cell? ⟨0, 0, none⟩ = some (.int .i64 m)) :
    Calls Tryz.prog 59 #[.string s, .string sub] w fun e w' => e = .returned (.int .i64 (Lib.index s.data.toList sub.data.toList)) ∧ w' = w := Any.strings_Index Tryz.lays143 s sub m w hs hm
def Tryz.lays144_ren : Go.Shelf.Ren := ⟨fun | 144 => 78 | 143 => 59 | 219 => 79 | 217 => 76 | 225 => 93 | 224 => 94 | 267 => 95 | 266 => 89 | 314 => 106 | n => n, fun | 9 => 9 | 4 => 4 | 3 => 3 | 5 => 5 | 46 => 120 | 146 => 129 | 51 => 128 | n => n, fun | 1 => 0 | n => n⟩
theorem Tryz.lays144 : Go.Proofs.Lays.n144 Tryz.prog Tryz.lays144_ren := {
  mixed := by kernel_rfl
  f143 := Tryz.func59.trans (congrArg some (by kernel_rfl))
  f144 := Tryz.func78.trans (congrArg some (by kernel_rfl))
  f217 := Tryz.func76.trans (congrArg some (by kernel_rfl))
  f219 := Tryz.func79.trans (congrArg some (by kernel_rfl))
  f224 := Tryz.func94.trans (congrArg some (by kernel_rfl))
  f225 := Tryz.func93.trans (congrArg some (by kernel_rfl))
  f266 := Tryz.func89.trans (congrArg some (by kernel_rfl))
  f267 := Tryz.func95.trans (congrArg some (by kernel_rfl))
  f314 := Tryz.func106.trans (congrArg some (by kernel_rfl))
  t3 := Tryz.underlying3
  a3 := Tryz.isAgg3
  z3 := Tryz.sizeOf3
  v3 := Tryz.zeroValue3
  t4 := Tryz.underlying4
  a4 := Tryz.isAgg4
  z4 := Tryz.sizeOf4
  v4 := Tryz.zeroValue4
  t5 := Tryz.underlying5
  a5 := Tryz.isAgg5
  z5 := Tryz.sizeOf5
  v5 := Tryz.zeroValue5
  t9 := Tryz.underlying9
  a9 := Tryz.isAgg9
  z9 := Tryz.sizeOf9
  v9 := Tryz.zeroValue9
  t46 := Tryz.underlying120
  a46 := Tryz.isAgg120
  z46 := Tryz.sizeOf120
  v46 := Tryz.zeroValue120
  t51 := Tryz.underlying128
  a51 := Tryz.isAgg128
  z51 := Tryz.sizeOf128
  v51 := Tryz.zeroValue128
  t146 := Tryz.underlying129
  a146 := Tryz.isAgg129
  z146 := Tryz.sizeOf129
  v146 := Tryz.zeroValue129
  g1 := by kernel_rfl }
open Go.RowKit Go.Lib in
/-- strings.Contains: "Contains reports whether substr is within s.": AT A substr OF ONE BYTE c: IT RETURNS 'decide (0 ≤ Lib.indexByte s c)'; the world is as it was. (LAID: no walk: one application.) -/
theorem Tryz.strings_Contains_one (s : ByteArray) (c : UInt8) (w : World) :
    Calls Tryz.prog 78 #[.string s, .string ⟨#[c]⟩] w fun e w' => e = .returned (.bool (decide (0 ≤ Lib.indexByte s.data.toList c))) ∧ w' = w := Any.strings_Contains_one Tryz.lays144 s c w
open Go.RowKit Go.Lib in
/-- strings.Contains: "Contains reports whether substr is within s.": IT RETURNS 'Lib.contains s substr'; the world is as it was. (LAID: no walk: one application.) -/
theorem Tryz.strings_Contains (s sub : ByteArray) (m : Int) (w : World) (hs : s.size < 4294967281) (hm : w.cell? ⟨0, 0, none⟩ = some (.int .i64 m)) :
    Calls Tryz.prog 78 #[.string s, .string sub] w fun e w' => e = .returned (.bool (Lib.contains s.data.toList sub.data.toList)) ∧ w' = w := Any.strings_Contains Tryz.lays144 s sub m w hs hm
def Tryz.lays138_ren : Go.Shelf.Ren := ⟨fun | 138 => 75 | 195 => 87 | 218 => 88 | 143 => 59 | 219 => 79 | 217 => 76 | 225 => 93 | 224 => 94 | 267 => 95 | 266 => 89 | 314 => 106 | n => n, fun | 9 => 9 | 3 => 3 | 4 => 4 | 5 => 5 | 0 => 0 | 46 => 120 | 146 => 129 | 51 => 128 | n => n, fun | 1 => 0 | n => n⟩
theorem Tryz.lays138 : Go.Proofs.Lays.n138 Tryz.prog Tryz.lays138_ren := {
  mixed := by kernel_rfl
  f138 := Tryz.func75.trans (congrArg some (by kernel_rfl))
  f143 := Tryz.func59.trans (congrArg some (by kernel_rfl))
  f195 := Tryz.func87.trans (congrArg some (by kernel_rfl))
  f217 := Tryz.func76.trans (congrArg some (by kernel_rfl))
  f218 := Tryz.func88.trans (congrArg some (by kernel_rfl))
  f219 := Tryz.func79.trans (congrArg some (by kernel_rfl))
  f224 := Tryz.func94.trans (congrArg some (by kernel_rfl))
  f225 := Tryz.func93.trans (congrArg some (by kernel_rfl))
  f266 := Tryz.func89.trans (congrArg some (by kernel_rfl))
  f267 := Tryz.func95.trans (congrArg some (by kernel_rfl))
  f314 := Tryz.func106.trans (congrArg some (by kernel_rfl))
  t0 := Tryz.underlying0
  a0 := Tryz.isAgg0
  z0 := Tryz.sizeOf0
  v0 := Tryz.zeroValue0
  t3 := Tryz.underlying3
  a3 := Tryz.isAgg3
  z3 := Tryz.sizeOf3
  v3 := Tryz.zeroValue3
  t4 := Tryz.underlying4
  a4 := Tryz.isAgg4
  z4 := Tryz.sizeOf4
  v4 := Tryz.zeroValue4
  t5 := Tryz.underlying5
  a5 := Tryz.isAgg5
  z5 := Tryz.sizeOf5
  v5 := Tryz.zeroValue5
  t9 := Tryz.underlying9
  a9 := Tryz.isAgg9
  z9 := Tryz.sizeOf9
  v9 := Tryz.zeroValue9
  t46 := Tryz.underlying120
  a46 := Tryz.isAgg120
  z46 := Tryz.sizeOf120
  v46 := Tryz.zeroValue120
  t51 := Tryz.underlying128
  a51 := Tryz.isAgg128
  z51 := Tryz.sizeOf128
  v51 := Tryz.zeroValue128
  t146 := Tryz.underlying129
  a146 := Tryz.isAgg129
  z146 := Tryz.sizeOf129
  v146 := Tryz.zeroValue129
  g1 := by kernel_rfl }
open Go.RowKit Go.Lib in
/-- strings.Count AT A substr OF ONE BYTE ('hp'): "Count counts the number of non-overlapping instances of substr in s.": IT RETURNS 'Lib.countByte s (that byte)'; the world is as it was. ✋ NO CONTRACT HERE YET at an empty substr (utf8.RuneCountInString) or at a longer one (a loop over strings.Index). (LAID: no walk: one application.) -/
theorem Tryz.strings_Count_one (s : ByteArray) (c : UInt8) (w : World) :
    Calls Tryz.prog 75 #[.string s, .string ⟨#[c]⟩] w fun e w' => e = .returned (.int .i64 (Lib.countByte s.data.toList c)) ∧ w' = w := Any.strings_Count_one Tryz.lays138 s c w
open Go.RowKit Go.Lib in
/-- strings.Count AT A substr OF TWO BYTES OR MORE: "Count counts the number of non-overlapping instances of substr in s.": IT RETURNS 'Lib.count s substr'; the world is as it was. (LAID: no walk: one application.) -/
theorem Tryz.strings_Count (s sub : ByteArray) (m : Int) (w : World) (hs : s.size < 4294967281) (hm : w.cell? ⟨0, 0, none⟩ = some (.int .i64 m)) (h2 : 2 ≤ sub.size) :
    Calls Tryz.prog 75 #[.string s, .string sub] w fun e w' => e = .returned (.int .i64 (Lib.countB s sub)) ∧ w' = w := Any.strings_Count Tryz.lays138 s sub m w hs hm h2
def Tryz.laysM219_ren : Go.Shelf.Ren := ⟨fun | 219 => 79 | 217 => 76 | 225 => 93 | 224 => 94 | 267 => 95 | 266 => 89 | 314 => 106 | n => n, fun | 9 => 9 | 3 => 3 | 4 => 4 | 5 => 5 | 46 => 120 | 146 => 129 | 51 => 128 | n => n, fun | 1 => 0 | n => n⟩
theorem Tryz.laysM219 : Go.Proofs.LaysM.n219 Tryz.prog Tryz.laysM219_ren := {
  mixed := by kernel_rfl
  f217 := Tryz.func76.trans (congrArg some (by kernel_rfl))
  f219 := Tryz.func79.trans (congrArg some (by kernel_rfl))
  f224 := Tryz.func94.trans (congrArg some (by kernel_rfl))
  f225 := Tryz.func93.trans (congrArg some (by kernel_rfl))
  f266 := Tryz.func89.trans (congrArg some (by kernel_rfl))
  f267 := Tryz.func95.trans (congrArg some (by kernel_rfl))
  f314 := Tryz.func106.trans (congrArg some (by kernel_rfl))
  t3 := Tryz.underlying3
  a3 := Tryz.isAgg3
  z3 := Tryz.sizeOf3
  v3 := Tryz.zeroValue3
  t4 := Tryz.underlying4
  a4 := Tryz.isAgg4
  z4 := Tryz.sizeOf4
  v4 := Tryz.zeroValue4
  t5 := Tryz.underlying5
  a5 := Tryz.isAgg5
  z5 := Tryz.sizeOf5
  v5 := Tryz.zeroValue5
  t9 := Tryz.underlying9
  a9 := Tryz.isAgg9
  z9 := Tryz.sizeOf9
  v9 := Tryz.zeroValue9
  t46 := Tryz.underlying120
  a46 := Tryz.isAgg120
  z46 := Tryz.sizeOf120
  v46 := Tryz.zeroValue120
  t51 := Tryz.underlying128
  a51 := Tryz.isAgg128
  z51 := Tryz.sizeOf128
  v51 := Tryz.zeroValue128
  t146 := Tryz.underlying129
  a146 := Tryz.isAgg129
  z146 := Tryz.sizeOf129
  v146 := Tryz.zeroValue129
  g1 := by kernel_rfl
  i3 := by kernel_rfl
  i4 := by kernel_rfl
  i5 := by kernel_rfl
  i9 := by kernel_rfl
  i46 := by kernel_rfl
  i51 := by kernel_rfl
  i146 := by kernel_rfl
  m1 := by kernel_rfl
  s1_3 := fun w h => Go.Proofs.cell_of_shapedOpen_int (zero := #[.int .i64 0]) (t := 3) h (of_decide_eq_true (by kernel_rfl)) (by kernel_rfl) rfl (by kernel_rfl) (by kernel_rfl) Tryz.underlying3 }
open Go.RowKit Go.Lib in
theorem Tryz.stringslite_Index_shaped (s sub : ByteArray) (w : World) (h : w.ShapedOpen Tryz.prog) (hs : s.size < 4294967281) :
    Calls Tryz.prog 79 #[.string s, .string sub] w fun e w' => e = .returned (.int .i64 (Lib.index s.data.toList sub.data.toList)) ∧ w' = w := Any.stringslite_Index_shaped Tryz.laysM219 s sub w h hs
def Tryz.laysM143_ren : Go.Shelf.Ren := ⟨fun | 143 => 59 | 219 => 79 | 217 => 76 | 225 => 93 | 224 => 94 | 267 => 95 | 266 => 89 | 314 => 106 | n => n, fun | 9 => 9 | 3 => 3 | 4 => 4 | 5 => 5 | 46 => 120 | 146 => 129 | 51 => 128 | n => n, fun | 1 => 0 | n => n⟩
theorem Tryz.laysM143 : Go.Proofs.LaysM.n143 Tryz.prog Tryz.laysM143_ren := {
  mixed := by kernel_rfl
  f143 := Tryz.func59.trans (congrArg some (by kernel_rfl))
  f217 := Tryz.func76.trans (congrArg some (by kernel_rfl))
  f219 := Tryz.func79.trans (congrArg some (by kernel_rfl))
  f224 := Tryz.func94.trans (congrArg some (by kernel_rfl))
  f225 := Tryz.func93.trans (congrArg some (by kernel_rfl))
  f266 := Tryz.func89.trans (congrArg some (by kernel_rfl))
  f267 := Tryz.func95.trans (congrArg some (by kernel_rfl))
  f314 := Tryz.func106.trans (congrArg some (by kernel_rfl))
  t3 := Tryz.underlying3
  a3 := Tryz.isAgg3
  z3 := Tryz.sizeOf3
  v3 := Tryz.zeroValue3
  t4 := Tryz.underlying4
  a4 := Tryz.isAgg4
  z4 := Tryz.sizeOf4
  v4 := Tryz.zeroValue4
  t5 := Tryz.underlying5
  a5 := Tryz.isAgg5
  z5 := Tryz.sizeOf5
  v5 := Tryz.zeroValue5
  t9 := Tryz.underlying9
  a9 := Tryz.isAgg9
  z9 := Tryz.sizeOf9
  v9 := Tryz.zeroValue9
  t46 := Tryz.underlying120
  a46 := Tryz.isAgg120
  z46 := Tryz.sizeOf120
  v46 := Tryz.zeroValue120
  t51 := Tryz.underlying128
  a51 := Tryz.isAgg128
  z51 := Tryz.sizeOf128
  v51 := Tryz.zeroValue128
  t146 := Tryz.underlying129
  a146 := Tryz.isAgg129
  z146 := Tryz.sizeOf129
  v146 := Tryz.zeroValue129
  g1 := by kernel_rfl
  i3 := by kernel_rfl
  i4 := by kernel_rfl
  i5 := by kernel_rfl
  i9 := by kernel_rfl
  i46 := by kernel_rfl
  i51 := by kernel_rfl
  i146 := by kernel_rfl
  m1 := by kernel_rfl
  s1_3 := fun w h => Go.Proofs.cell_of_shapedOpen_int (zero := #[.int .i64 0]) (t := 3) h (of_decide_eq_true (by kernel_rfl)) (by kernel_rfl) rfl (by kernel_rfl) (by kernel_rfl) Tryz.underlying3 }
open Go.RowKit Go.Lib in
theorem Tryz.strings_Index_shaped (s sub : ByteArray) (w : World) (h : w.ShapedOpen Tryz.prog) (hs : s.size < 4294967281) :
    Calls Tryz.prog 59 #[.string s, .string sub] w fun e w' => e = .returned (.int .i64 (Lib.index s.data.toList sub.data.toList)) ∧ w' = w := Any.strings_Index_shaped Tryz.laysM143 s sub w h hs
def Tryz.laysM144_ren : Go.Shelf.Ren := ⟨fun | 144 => 78 | 143 => 59 | 219 => 79 | 217 => 76 | 225 => 93 | 224 => 94 | 267 => 95 | 266 => 89 | 314 => 106 | n => n, fun | 9 => 9 | 4 => 4 | 3 => 3 | 5 => 5 | 46 => 120 | 146 => 129 | 51 => 128 | n => n, fun | 1 => 0 | n => n⟩
theorem Tryz.laysM144 : Go.Proofs.LaysM.n144 Tryz.prog Tryz.laysM144_ren := {
  mixed := by kernel_rfl
  f143 := Tryz.func59.trans (congrArg some (by kernel_rfl))
  f144 := Tryz.func78.trans (congrArg some (by kernel_rfl))
  f217 := Tryz.func76.trans (congrArg some (by kernel_rfl))
  f219 := Tryz.func79.trans (congrArg some (by kernel_rfl))
  f224 := Tryz.func94.trans (congrArg some (by kernel_rfl))
  f225 := Tryz.func93.trans (congrArg some (by kernel_rfl))
  f266 := Tryz.func89.trans (congrArg some (by kernel_rfl))
  f267 := Tryz.func95.trans (congrArg some (by kernel_rfl))
  f314 := Tryz.func106.trans (congrArg some (by kernel_rfl))
  t3 := Tryz.underlying3
  a3 := Tryz.isAgg3
  z3 := Tryz.sizeOf3
  v3 := Tryz.zeroValue3
  t4 := Tryz.underlying4
  a4 := Tryz.isAgg4
  z4 := Tryz.sizeOf4
  v4 := Tryz.zeroValue4
  t5 := Tryz.underlying5
  a5 := Tryz.isAgg5
  z5 := Tryz.sizeOf5
  v5 := Tryz.zeroValue5
  t9 := Tryz.underlying9
  a9 := Tryz.isAgg9
  z9 := Tryz.sizeOf9
  v9 := Tryz.zeroValue9
  t46 := Tryz.underlying120
  a46 := Tryz.isAgg120
  z46 := Tryz.sizeOf120
  v46 := Tryz.zeroValue120
  t51 := Tryz.underlying128
  a51 := Tryz.isAgg128
  z51 := Tryz.sizeOf128
  v51 := Tryz.zeroValue128
  t146 := Tryz.underlying129
  a146 := Tryz.isAgg129
  z146 := Tryz.sizeOf129
  v146 := Tryz.zeroValue129
  g1 := by kernel_rfl
  i3 := by kernel_rfl
  i4 := by kernel_rfl
  i5 := by kernel_rfl
  i9 := by kernel_rfl
  i46 := by kernel_rfl
  i51 := by kernel_rfl
  i146 := by kernel_rfl
  m1 := by kernel_rfl
  s1_3 := fun w h => Go.Proofs.cell_of_shapedOpen_int (zero := #[.int .i64 0]) (t := 3) h (of_decide_eq_true (by kernel_rfl)) (by kernel_rfl) rfl (by kernel_rfl) (by kernel_rfl) Tryz.underlying3 }
open Go.RowKit Go.Lib in
theorem Tryz.strings_Contains_shaped (s sub : ByteArray) (w : World) (h : w.ShapedOpen Tryz.prog) (hs : s.size < 4294967281) :
    Calls Tryz.prog 78 #[.string s, .string sub] w fun e w' => e = .returned (.bool (Lib.contains s.data.toList sub.data.toList)) ∧ w' = w := Any.strings_Contains_shaped Tryz.laysM144 s sub w h hs
def Tryz.laysM138_ren : Go.Shelf.Ren := ⟨fun | 138 => 75 | 195 => 87 | 218 => 88 | 143 => 59 | 219 => 79 | 217 => 76 | 225 => 93 | 224 => 94 | 267 => 95 | 266 => 89 | 314 => 106 | n => n, fun | 9 => 9 | 3 => 3 | 4 => 4 | 5 => 5 | 0 => 0 | 46 => 120 | 146 => 129 | 51 => 128 | n => n, fun | 1 => 0 | n => n⟩
theorem Tryz.laysM138 : Go.Proofs.LaysM.n138 Tryz.prog Tryz.laysM138_ren := {
  mixed := by kernel_rfl
  f138 := Tryz.func75.trans (congrArg some (by kernel_rfl))
  f143 := Tryz.func59.trans (congrArg some (by kernel_rfl))
  f195 := Tryz.func87.trans (congrArg some (by kernel_rfl))
  f217 := Tryz.func76.trans (congrArg some (by kernel_rfl))
  f218 := Tryz.func88.trans (congrArg some (by kernel_rfl))
  f219 := Tryz.func79.trans (congrArg some (by kernel_rfl))
  f224 := Tryz.func94.trans (congrArg some (by kernel_rfl))
  f225 := Tryz.func93.trans (congrArg some (by kernel_rfl))
  f266 := Tryz.func89.trans (congrArg some (by kernel_rfl))
  f267 := Tryz.func95.trans (congrArg some (by kernel_rfl))
  f314 := Tryz.func106.trans (congrArg some (by kernel_rfl))
  t0 := Tryz.underlying0
  a0 := Tryz.isAgg0
  z0 := Tryz.sizeOf0
  v0 := Tryz.zeroValue0
  t3 := Tryz.underlying3
  a3 := Tryz.isAgg3
  z3 := Tryz.sizeOf3
  v3 := Tryz.zeroValue3
  t4 := Tryz.underlying4
  a4 := Tryz.isAgg4
  z4 := Tryz.sizeOf4
  v4 := Tryz.zeroValue4
  t5 := Tryz.underlying5
  a5 := Tryz.isAgg5
  z5 := Tryz.sizeOf5
  v5 := Tryz.zeroValue5
  t9 := Tryz.underlying9
  a9 := Tryz.isAgg9
  z9 := Tryz.sizeOf9
  v9 := Tryz.zeroValue9
  t46 := Tryz.underlying120
  a46 := Tryz.isAgg120
  z46 := Tryz.sizeOf120
  v46 := Tryz.zeroValue120
  t51 := Tryz.underlying128
  a51 := Tryz.isAgg128
  z51 := Tryz.sizeOf128
  v51 := Tryz.zeroValue128
  t146 := Tryz.underlying129
  a146 := Tryz.isAgg129
  z146 := Tryz.sizeOf129
  v146 := Tryz.zeroValue129
  g1 := by kernel_rfl
  i0 := by kernel_rfl
  i3 := by kernel_rfl
  i4 := by kernel_rfl
  i5 := by kernel_rfl
  i9 := by kernel_rfl
  i46 := by kernel_rfl
  i51 := by kernel_rfl
  i146 := by kernel_rfl
  m1 := by kernel_rfl
  s1_3 := fun w h => Go.Proofs.cell_of_shapedOpen_int (zero := #[.int .i64 0]) (t := 3) h (of_decide_eq_true (by kernel_rfl)) (by kernel_rfl) rfl (by kernel_rfl) (by kernel_rfl) Tryz.underlying3 }
open Go.RowKit Go.Lib in
theorem Tryz.strings_Count_shaped (s sub : ByteArray) (w : World) (h : w.ShapedOpen Tryz.prog) (hs : s.size < 4294967281) (h2 : 2 ≤ sub.size) :
    Calls Tryz.prog 75 #[.string s, .string sub] w fun e w' => e = .returned (.int .i64 (Lib.countB s sub)) ∧ w' = w := Any.strings_Count_shaped Tryz.laysM138 s sub w h hs h2
open Go.RowKit Go.Lib in
/-- strings.Count at whatever sep that is not empty: the two roads under one statement. (LAID: no walk: one application.) -/
theorem Tryz.strings_Count_any (s sep : ByteArray) (m : Int) (w : World) (hs : s.size < 4294967281) (hm : w.cell? ⟨0, 0, none⟩ = some (.int .i64 m)) (h1 : 1 ≤ sep.size) :
    Calls Tryz.prog 75 #[.string s, .string sep] w fun e w' => e = .returned (.int .i64 (Lib.countB s sep)) ∧ w' = w := Any.strings_Count_any Tryz.lays138 s sep m w hs hm h1
def Tryz.lays152_ren : Go.Shelf.Ren := ⟨fun | 152 => 104 | 137 => 56 | 119 => 110 | 224 => 94 | 225 => 93 | 217 => 76 | 266 => 89 | n => n, fun | 9 => 9 | 21 => 21 | 3 => 3 | 4 => 4 | 5 => 5 | 0 => 0 | 46 => 120 | n => n, fun | n => n⟩
theorem Tryz.lays152 : Go.Proofs.Lays.n152 Tryz.prog Tryz.lays152_ren := {
  mixed := by kernel_rfl
  f119 := Tryz.func110.trans (congrArg some (by kernel_rfl))
  f137 := Tryz.func56.trans (congrArg some (by kernel_rfl))
  f152 := Tryz.func104.trans (congrArg some (by kernel_rfl))
  f217 := Tryz.func76.trans (congrArg some (by kernel_rfl))
  f224 := Tryz.func94.trans (congrArg some (by kernel_rfl))
  f225 := Tryz.func93.trans (congrArg some (by kernel_rfl))
  f266 := Tryz.func89.trans (congrArg some (by kernel_rfl))
  t0 := Tryz.underlying0
  a0 := Tryz.isAgg0
  z0 := Tryz.sizeOf0
  v0 := Tryz.zeroValue0
  t3 := Tryz.underlying3
  a3 := Tryz.isAgg3
  z3 := Tryz.sizeOf3
  v3 := Tryz.zeroValue3
  t4 := Tryz.underlying4
  a4 := Tryz.isAgg4
  z4 := Tryz.sizeOf4
  v4 := Tryz.zeroValue4
  t5 := Tryz.underlying5
  a5 := Tryz.isAgg5
  z5 := Tryz.sizeOf5
  v5 := Tryz.zeroValue5
  t9 := Tryz.underlying9
  a9 := Tryz.isAgg9
  z9 := Tryz.sizeOf9
  v9 := Tryz.zeroValue9
  t21 := Tryz.underlying21
  a21 := Tryz.isAgg21
  z21 := Tryz.sizeOf21
  v21 := Tryz.zeroValue21
  t46 := Tryz.underlying120
  a46 := Tryz.isAgg120
  z46 := Tryz.sizeOf120
  v46 := Tryz.zeroValue120 }
open Go.RowKit Go.Lib in
theorem Tryz.strings_IndexRune_ascii (s : ByteArray) (r : Int) (w : World) (h0 : 0 ≤ r) (h1 : r < 128) :
    Calls Tryz.prog 104 #[.string s, .int .i32 r] w fun e w' => e = .returned (.int .i64 (Lib.indexByte s.data.toList r.toNat.toUInt8)) ∧ w' = w := Any.strings_IndexRune_ascii Tryz.lays152 s r w h0 h1
def Tryz.lays151_ren : Go.Shelf.Ren := ⟨fun | 151 => 85 | 152 => 104 | 137 => 56 | 119 => 110 | 224 => 94 | 225 => 93 | 217 => 76 | 266 => 89 | n => n, fun | 9 => 9 | 21 => 21 | 4 => 4 | 3 => 3 | 5 => 5 | 0 => 0 | 46 => 120 | n => n, fun | n => n⟩
theorem Tryz.lays151 : Go.Proofs.Lays.n151 Tryz.prog Tryz.lays151_ren := {
  mixed := by kernel_rfl
  f119 := Tryz.func110.trans (congrArg some (by kernel_rfl))
  f137 := Tryz.func56.trans (congrArg some (by kernel_rfl))
  f151 := Tryz.func85.trans (congrArg some (by kernel_rfl))
  f152 := Tryz.func104.trans (congrArg some (by kernel_rfl))
  f217 := Tryz.func76.trans (congrArg some (by kernel_rfl))
  f224 := Tryz.func94.trans (congrArg some (by kernel_rfl))
  f225 := Tryz.func93.trans (congrArg some (by kernel_rfl))
  f266 := Tryz.func89.trans (congrArg some (by kernel_rfl))
  t0 := Tryz.underlying0
  a0 := Tryz.isAgg0
  z0 := Tryz.sizeOf0
  v0 := Tryz.zeroValue0
  t3 := Tryz.underlying3
  a3 := Tryz.isAgg3
  z3 := Tryz.sizeOf3
  v3 := Tryz.zeroValue3
  t4 := Tryz.underlying4
  a4 := Tryz.isAgg4
  z4 := Tryz.sizeOf4
  v4 := Tryz.zeroValue4
  t5 := Tryz.underlying5
  a5 := Tryz.isAgg5
  z5 := Tryz.sizeOf5
  v5 := Tryz.zeroValue5
  t9 := Tryz.underlying9
  a9 := Tryz.isAgg9
  z9 := Tryz.sizeOf9
  v9 := Tryz.zeroValue9
  t21 := Tryz.underlying21
  a21 := Tryz.isAgg21
  z21 := Tryz.sizeOf21
  v21 := Tryz.zeroValue21
  t46 := Tryz.underlying120
  a46 := Tryz.isAgg120
  z46 := Tryz.sizeOf120
  v46 := Tryz.zeroValue120 }
open Go.RowKit Go.Lib in
theorem Tryz.strings_ContainsRune_ascii (s : ByteArray) (r : Int) (w : World) (h0 : 0 ≤ r) (h1 : r < 128) :
    Calls Tryz.prog 85 #[.string s, .int .i32 r] w fun e w' => e = .returned (.bool (decide (0 ≤ Lib.indexByte s.data.toList r.toNat.toUInt8))) ∧ w' = w := Any.strings_ContainsRune_ascii Tryz.lays151 s r w h0 h1
open Go.RowKit Go.Lib in
theorem Tryz.utf8_RuneCountInString_ascii (s : ByteArray) (w : World) (hs : s.size < 4294967281) (hascii : ∀ (j : Nat) b, s.data.toList[j]? = some b → b.toNat < 128) :
    Calls Tryz.prog 87 #[.string s] w fun e w' => e = .returned (.int .i64 s.size) ∧ w' = w.iter s s.size := Any.utf8_RuneCountInString_ascii Tryz.lays195 s w hs hascii
def Tryz.lays227_ren : Go.Shelf.Ren := ⟨fun | 227 => 70 | n => n, fun | 9 => 9 | 116 => 96 | 4 => 4 | 0 => 0 | 3 => 3 | 5 => 5 | n => n, fun | n => n⟩
theorem Tryz.lays227 : Go.Proofs.Lays.n227 Tryz.prog Tryz.lays227_ren := {
  mixed := by kernel_rfl
  f227 := Tryz.func70.trans (congrArg some (by kernel_rfl))
  t0 := Tryz.underlying0
  a0 := Tryz.isAgg0
  z0 := Tryz.sizeOf0
  v0 := Tryz.zeroValue0
  t3 := Tryz.underlying3
  a3 := Tryz.isAgg3
  z3 := Tryz.sizeOf3
  v3 := Tryz.zeroValue3
  t4 := Tryz.underlying4
  a4 := Tryz.isAgg4
  z4 := Tryz.sizeOf4
  v4 := Tryz.zeroValue4
  t5 := Tryz.underlying5
  a5 := Tryz.isAgg5
  z5 := Tryz.sizeOf5
  v5 := Tryz.zeroValue5
  t9 := Tryz.underlying9
  a9 := Tryz.isAgg9
  z9 := Tryz.sizeOf9
  v9 := Tryz.zeroValue9
  t116 := Tryz.underlying96
  a116 := Tryz.isAgg96
  z116 := Tryz.sizeOf96 }
open Go.RowKit Go.Lib in
theorem Tryz.strings_makeASCIISet (hv116 : ∀ w, (zeroValue 96).run Tryz.prog w = .ok (.agg (Array.replicate 256 (.bool false))) w) (chars : ByteArray) (w : World) (hs : chars.size < 4294967281) (hascii : ∀ (j : Nat) b, chars.data.toList[j]? = some b → b.toNat < 128) :
    Calls Tryz.prog 70 #[.string chars] w fun e w' => e = .returned (.tuple #[.agg (Lib.setCells chars.data.toList), .bool true]) ∧ w' = w.alloc (.cells (Lib.setCells chars.data.toList) 96) := Any.strings_makeASCIISet Tryz.lays227 hv116 (by kernel_rfl) chars w hs hascii
def Tryz.lays228_ren : Go.Shelf.Ren := ⟨fun | 228 => 83 | n => n, fun | 124 => 100 | 5 => 5 | 4 => 4 | 0 => 0 | 116 => 96 | n => n, fun | n => n⟩
theorem Tryz.lays228 : Go.Proofs.Lays.n228 Tryz.prog Tryz.lays228_ren := {
  mixed := by kernel_rfl
  f228 := Tryz.func83.trans (congrArg some (by kernel_rfl))
  t0 := Tryz.underlying0
  a0 := Tryz.isAgg0
  z0 := Tryz.sizeOf0
  v0 := Tryz.zeroValue0
  t4 := Tryz.underlying4
  a4 := Tryz.isAgg4
  z4 := Tryz.sizeOf4
  v4 := Tryz.zeroValue4
  t5 := Tryz.underlying5
  a5 := Tryz.isAgg5
  z5 := Tryz.sizeOf5
  v5 := Tryz.zeroValue5
  t116 := Tryz.underlying96
  a116 := Tryz.isAgg96
  z116 := Tryz.sizeOf96
  t124 := Tryz.underlying100
  a124 := Tryz.isAgg100
  z124 := Tryz.sizeOf100
  v124 := Tryz.zeroValue100 }
open Go.RowKit Go.Lib in
/-- '(as *asciiSet) contains(c)': 'as[c]': the set lies at block b, whole. (LAID: no walk: one application.) -/
theorem Tryz.asciiSet_contains (b : Nat) (x : UInt8) (v : Bool) (w : World) (hc : w.cell? ⟨b, x.toNat, none⟩ = some (.bool v)) :
    Calls Tryz.prog 83 #[.pointer (some ⟨b, 0, none⟩), .int .u8 x.toNat] w fun e w' => e = .returned (.bool v) ∧ w' = w := Any.asciiSet_contains Tryz.lays228 b x v w hc
def Tryz.lays260_ren : Go.Shelf.Ren := ⟨fun | 260 => 103 | n => n, fun | 9 => 9 | 21 => 21 | 3 => 3 | 4 => 4 | 5 => 5 | 119 => 135 | 0 => 0 | 46 => 120 | 139 => 138 | 138 => 137 | n => n, fun | 3 => 1 | 4 => 2 | n => n⟩
theorem Tryz.lays260 : Go.Proofs.Lays.n260 Tryz.prog Tryz.lays260_ren := {
  mixed := by kernel_rfl
  f260 := Tryz.func103.trans (congrArg some (by kernel_rfl))
  t0 := Tryz.underlying0
  a0 := Tryz.isAgg0
  z0 := Tryz.sizeOf0
  v0 := Tryz.zeroValue0
  t3 := Tryz.underlying3
  a3 := Tryz.isAgg3
  z3 := Tryz.sizeOf3
  v3 := Tryz.zeroValue3
  t4 := Tryz.underlying4
  a4 := Tryz.isAgg4
  z4 := Tryz.sizeOf4
  v4 := Tryz.zeroValue4
  t5 := Tryz.underlying5
  a5 := Tryz.isAgg5
  z5 := Tryz.sizeOf5
  v5 := Tryz.zeroValue5
  t9 := Tryz.underlying9
  a9 := Tryz.isAgg9
  z9 := Tryz.sizeOf9
  v9 := Tryz.zeroValue9
  t21 := Tryz.underlying21
  a21 := Tryz.isAgg21
  z21 := Tryz.sizeOf21
  v21 := Tryz.zeroValue21
  t46 := Tryz.underlying120
  a46 := Tryz.isAgg120
  z46 := Tryz.sizeOf120
  v46 := Tryz.zeroValue120
  t119 := Tryz.underlying135
  a119 := Tryz.isAgg135
  z119 := Tryz.sizeOf135
  t138 := Tryz.underlying137
  a138 := Tryz.isAgg137
  z138 := Tryz.sizeOf137
  v138 := Tryz.zeroValue137
  t139 := Tryz.underlying138
  a139 := Tryz.isAgg138
  z139 := Tryz.sizeOf138
  v139 := Tryz.zeroValue138
  g3 := by kernel_rfl
  g4 := by kernel_rfl }
open Go.RowKit Go.Lib in
theorem Tryz.utf8_decodeRuneInStringSlow (s : ByteArray) (w : World) (hT : Lib.Utf8Tabs 1 2 w) :
    Calls Tryz.prog 103 #[.string s] w fun e w' => e = .returned (.tuple #[.int .i32 (Lib.decodeGo s).1, .int .i64 (Lib.decodeGo s).2]) ∧ Below w.heap.size w w' := Any.utf8_decodeRuneInStringSlow Tryz.lays260 s w hT
def Tryz.lays197_ren : Go.Shelf.Ren := ⟨fun | 197 => 84 | 260 => 103 | n => n, fun | 9 => 9 | 21 => 21 | 3 => 3 | 4 => 4 | 5 => 5 | 105 => 113 | 119 => 135 | 0 => 0 | 46 => 120 | 139 => 138 | 138 => 137 | n => n, fun | 3 => 1 | 4 => 2 | n => n⟩
theorem Tryz.lays197 : Go.Proofs.Lays.n197 Tryz.prog Tryz.lays197_ren := {
  mixed := by kernel_rfl
  f197 := Tryz.func84.trans (congrArg some (by kernel_rfl))
  f260 := Tryz.func103.trans (congrArg some (by kernel_rfl))
  t0 := Tryz.underlying0
  a0 := Tryz.isAgg0
  z0 := Tryz.sizeOf0
  v0 := Tryz.zeroValue0
  t3 := Tryz.underlying3
  a3 := Tryz.isAgg3
  z3 := Tryz.sizeOf3
  v3 := Tryz.zeroValue3
  t4 := Tryz.underlying4
  a4 := Tryz.isAgg4
  z4 := Tryz.sizeOf4
  v4 := Tryz.zeroValue4
  t5 := Tryz.underlying5
  a5 := Tryz.isAgg5
  z5 := Tryz.sizeOf5
  v5 := Tryz.zeroValue5
  t9 := Tryz.underlying9
  a9 := Tryz.isAgg9
  z9 := Tryz.sizeOf9
  v9 := Tryz.zeroValue9
  t21 := Tryz.underlying21
  a21 := Tryz.isAgg21
  z21 := Tryz.sizeOf21
  v21 := Tryz.zeroValue21
  t46 := Tryz.underlying120
  a46 := Tryz.isAgg120
  z46 := Tryz.sizeOf120
  v46 := Tryz.zeroValue120
  t105 := Tryz.underlying113
  a105 := Tryz.isAgg113
  z105 := Tryz.sizeOf113
  v105 := Tryz.zeroValue113
  t119 := Tryz.underlying135
  a119 := Tryz.isAgg135
  z119 := Tryz.sizeOf135
  t138 := Tryz.underlying137
  a138 := Tryz.isAgg137
  z138 := Tryz.sizeOf137
  v138 := Tryz.zeroValue137
  t139 := Tryz.underlying138
  a139 := Tryz.isAgg138
  z139 := Tryz.sizeOf138
  v139 := Tryz.zeroValue138
  g3 := by kernel_rfl
  g4 := by kernel_rfl }
open Go.RowKit Go.Lib in
/-- **unicode/utf8.DecodeRuneInString AT EVERY STRING.** (LAID: no walk: one application.) -/
theorem Tryz.utf8_DecodeRuneInString (s : ByteArray) (w : World) (hT : Lib.Utf8Tabs 1 2 w) :
    Calls Tryz.prog 84 #[.string s] w fun e w' => e = .returned (.tuple #[.int .i32 (Lib.decodeGo s).1, .int .i64 (Lib.decodeGo s).2]) ∧ Below w.heap.size w w' := Any.utf8_DecodeRuneInString Tryz.lays197 s w hT
def Tryz.lays271_ren : Go.Shelf.Ren := ⟨fun | 271 => 86 | 120 => 105 | 197 => 84 | 260 => 103 | n => n, fun | 9 => 9 | 21 => 21 | 3 => 3 | 4 => 4 | 5 => 5 | 105 => 113 | 119 => 135 | 0 => 0 | 46 => 120 | 139 => 138 | 138 => 137 | n => n, fun | 3 => 1 | 4 => 2 | n => n⟩
theorem Tryz.lays271 : Go.Proofs.Lays.n271 Tryz.prog Tryz.lays271_ren := {
  mixed := by kernel_rfl
  f120 := Tryz.func105.trans (congrArg some (by kernel_rfl))
  f197 := Tryz.func84.trans (congrArg some (by kernel_rfl))
  f260 := Tryz.func103.trans (congrArg some (by kernel_rfl))
  f271 := Tryz.func86.trans (congrArg some (by kernel_rfl))
  t0 := Tryz.underlying0
  a0 := Tryz.isAgg0
  z0 := Tryz.sizeOf0
  v0 := Tryz.zeroValue0
  t3 := Tryz.underlying3
  a3 := Tryz.isAgg3
  z3 := Tryz.sizeOf3
  v3 := Tryz.zeroValue3
  t4 := Tryz.underlying4
  a4 := Tryz.isAgg4
  z4 := Tryz.sizeOf4
  v4 := Tryz.zeroValue4
  t5 := Tryz.underlying5
  a5 := Tryz.isAgg5
  z5 := Tryz.sizeOf5
  v5 := Tryz.zeroValue5
  t9 := Tryz.underlying9
  a9 := Tryz.isAgg9
  z9 := Tryz.sizeOf9
  v9 := Tryz.zeroValue9
  t21 := Tryz.underlying21
  a21 := Tryz.isAgg21
  z21 := Tryz.sizeOf21
  v21 := Tryz.zeroValue21
  t46 := Tryz.underlying120
  a46 := Tryz.isAgg120
  z46 := Tryz.sizeOf120
  v46 := Tryz.zeroValue120
  t105 := Tryz.underlying113
  a105 := Tryz.isAgg113
  z105 := Tryz.sizeOf113
  v105 := Tryz.zeroValue113
  t119 := Tryz.underlying135
  a119 := Tryz.isAgg135
  z119 := Tryz.sizeOf135
  t138 := Tryz.underlying137
  a138 := Tryz.isAgg137
  z138 := Tryz.sizeOf137
  v138 := Tryz.zeroValue137
  t139 := Tryz.underlying138
  a139 := Tryz.isAgg138
  z139 := Tryz.sizeOf138
  v139 := Tryz.zeroValue138
  g3 := by kernel_rfl
  g4 := by kernel_rfl }
open Go.RowKit Go.Lib in
/-- **unicode/utf8.DecodeLastRuneInString AT EVERY STRING.** (LAID: no walk: one application.) -/
theorem Tryz.utf8_DecodeLastRuneInString (s : ByteArray) (w : World) (hs : s.size ≤ 9223372036854775807) (hT : Lib.Utf8Tabs 1 2 w) :
    Calls Tryz.prog 86 #[.string s] w fun e w' => e = .returned (.tuple #[.int .i32 (Lib.decodeLastL s.data.toList).1, .int .i64 (Lib.decodeLastL s.data.toList).2]) ∧ Below w.heap.size w w' := Any.utf8_DecodeLastRuneInString Tryz.lays271 s w hs hT
end Go.Proofs

/- THE SEAT's contracts of strings, out of the shelf. -/
namespace Go.Proofs.YtmlmfjjfciiblaaGreatDoor.Ab
open Go Go.RowKit Go.Shelf

section
variable {m : Emb} {args : Array Value}
theorem rel_two {x y : AV} (h : RelL F m [x, y] args.toList) : ∃ u v, args = #[u, v] ∧ RelV F m x u ∧ RelV F m y v := by
  simp only [RelL] at h
  obtain ⟨u, l, e1, h1, v, l2, rfl, h2, rfl⟩ := h
  exact ⟨u, v, by rw [← Array.toArray_toList (xs := args), e1], h1, h2⟩
end

theorem x_Count : ExtAt Go.Proofs.Tryz.prog F 131 xCount := by
  intro xs r hr
  unfold xCount at hr
  split at hr
  · rename_i s c
    cases hr
    refine ⟨by decide +kernel, fun m w args hx => ?_⟩
    obtain ⟨u, v, rfl, h1, h2⟩ := rel_two hx
    rw [rel_str h1, rel_str h2]
    refine (Tryz.strings_Count_one ⟨s.toArray⟩ c w).mono ?_
    rintro e w' ⟨rfl, rfl⟩
    exact ⟨_, rfl, by simp only [RelV], Below.refl _ _⟩
  · cases hr
theorem x_Contains : ExtAt Go.Proofs.Tryz.prog F 126 xContains := by
  intro xs r hr
  unfold xContains at hr
  split at hr
  · rename_i s c
    cases hr
    refine ⟨by decide +kernel, fun m w args hx => ?_⟩
    obtain ⟨u, v, rfl, h1, h2⟩ := rel_two hx
    rw [rel_str h1, rel_str h2]
    refine (Tryz.strings_Contains_one ⟨s.toArray⟩ c w).mono ?_
    rintro e w' ⟨rfl, rfl⟩
    exact ⟨_, rfl, by simp only [RelV], Below.refl _ _⟩
  · cases hr
theorem x_Index : ExtAt Go.Proofs.Tryz.prog F 194 xIndex := by
  intro xs r hr
  unfold xIndex at hr
  split at hr
  · rename_i s c
    cases hr
    refine ⟨by decide +kernel, fun m w args hx => ?_⟩
    obtain ⟨u, v, rfl, h1, h2⟩ := rel_two hx
    rw [rel_str h1, rel_str h2]
    refine (Tryz.strings_Index_one ⟨s.toArray⟩ c w).mono ?_
    rintro e w' ⟨rfl, rfl⟩
    exact ⟨_, rfl, by simp only [RelV], Below.refl _ _⟩
  · cases hr
theorem x_IndexByte : ExtAt Go.Proofs.Tryz.prog F 190 xIndexByte := by
  intro xs r hr
  unfold xIndexByte at hr
  split at hr
  · rename_i s c
    cases hr
    refine ⟨by decide +kernel, fun m w args hx => ?_⟩
    obtain ⟨u, v, rfl, h1, h2⟩ := rel_two hx
    rw [rel_str h1, rel_int h2]
    refine (Tryz.strings_IndexByte ⟨s.toArray⟩ c w).mono ?_
    rintro e w' ⟨rfl, rfl⟩
    exact ⟨_, rfl, by simp only [RelV], Below.refl _ _⟩
  · cases hr
theorem x_Trim : ExtAt Go.Proofs.Tryz.prog F 111 xTrim := by
  intro xs r hr
  unfold xTrim at hr
  split at hr
  · rename_i s c
    split at hr
    · rename_i hc
      obtain ⟨h1, h2, h3⟩ := hc
      cases hr
      refine ⟨by decide +kernel, fun m w args hx => ?_⟩
      obtain ⟨u, v, rfl, g1, g2⟩ := rel_two hx
      rw [rel_str g1, rel_str g2]
      have hsz : ∀ l : List UInt8, (⟨l.toArray⟩ : ByteArray).size = l.length := fun _ => rfl
      refine (Any.strings_Trim_laid Tryz.lays160 (by kernel_rfl) ⟨s.toArray⟩ ⟨c.toArray⟩ w (by rw [hsz]; omega) (by rw [hsz]; omega) ?_).mono ?_
      · intro j b hb
        have := List.all_eq_true.1 h3 b (List.mem_of_getElem? hb)
        simpa using this
      · rintro e w' ⟨rfl, hb⟩
        exact ⟨_, rfl, by simp only [RelV], hb⟩
    · cases hr
  · cases hr

theorem strs_rel {m : Emb} : ∀ {cs : List AV} {xs : List (List UInt8)} {vs : List Value}, strsOf cs = some xs → RelL F m cs vs → vs = xs.map fun s => Value.string ⟨s.toArray⟩
  | [], xs, vs, h, hr => by
    simp only [strsOf, Option.some.injEq] at h
    subst h
    simpa only [RelL, List.map_nil] using hr
  | .str s :: cs, xs, vs, h, hr => by
    simp only [strsOf, Option.map_eq_some_iff] at h
    obtain ⟨ys, hy, rfl⟩ := h
    simp only [RelL] at hr
    obtain ⟨v, vs', rfl, h1, h2⟩ := hr
    rw [rel_str h1, strs_rel hy h2]
    rfl
  | .int .. :: _, _, _, h, _ | .bool _ :: _, _, _, h, _ | .nilS :: _, _, _, h, _ | .empS :: _, _, _, h, _ | .slice .. :: _, _, _, h, _ | .nilP :: _, _, _, h, _ | .ptr .. :: _, _, _, h, _ | .nilM :: _, _, _, h, _ | .map _ :: _, _, _, h, _
  | .iter _ :: _, _, _, h, _ | .fn .. :: _, _, _, h, _ | .nilF :: _, _, _, h, _ | .agg _ :: _, _, _, h, _ | .tup _ :: _, _, _, h, _ | .nilI :: _, _, _, h, _ | .ifc :: _, _, _, h, _ | .undef :: _, _, _, h, _ => by simp [strsOf] at h
theorem xok : ExtOk Go.Proofs.Tryz.prog F E := by
  refine ext_ok ?_ ?_
  · intro x hx
    simp only [xtab, List.mem_cons, List.not_mem_nil, or_false] at hx
    rcases hx with rfl | rfl | rfl | rfl | rfl
    · exact x_Trim.h
    · exact x_IndexByte.h
    · exact x_Index.h
    · exact x_Contains.h
    · exact x_Count.h
  · intro x hx
    simp only [ytab, List.mem_cons, List.not_mem_nil, or_false] at hx
    subst hx; exact x_Delete3
/-- ALL OF IT: what the machine says, the program does. -/
theorem all_sound : ∀ n, Sound Go.Proofs.Tryz.prog F (evF T E n) := sound hT xok
end Go.Proofs.YtmlmfjjfciiblaaGreatDoor.Ab

/- RULES for the simplifier: reckoning through a body. What is still to come is hidden from it behind a tag. -/
namespace Go.Proofs.YtmlmfjjfciiblaaGreatDoor.Ab
open Go

inductive Tag {α : Sort _} (a : α) : Type
  | k

/-- A function's answer. -/
def S (f : Nat) (xs : List AV) (h : AH) (post : AV → AH → Prop) (_ : Tag post) : Prop := Spec T E f xs h post
def Cx (c : C) (e : Env) (h : AH) (R : X → Env → AH → Prop) (_ : Tag c) (_ : Tag R) : Prop := WC T E c e h R
def Rx (is : List I) (e : Env) (h : AH) (Q : Env → AH → Prop) (_ : Tag is) (_ : Tag Q) : Prop := WR T E is e h Q
def Ox (o : Option (AV × AH)) (K : AV → AH → Prop) (_ : Tag K) : Prop := WO o K
/-- A branch: not gone into before it is known. -/
def WB (v : AV) (K : Bool → Prop) (_ : Tag K) : Prop := match v with
  | .bool t => K t
  | _ => False
def WF (v : AV) (K : Nat → List AV → Prop) (_ : Tag K) : Prop := match v with
  | .fn f cap => K f cap
  | _ => False
def WI (t : Bool) (A B : Prop) (_ : Tag A) (_ : Tag B) : Prop := if t = true then A else B
abbrev k {α : Sort _} {a : α} : Tag a := Tag.k

theorem WB_true {K : Bool → Prop} : WB (.bool true) K k = K true := rfl
theorem WB_false {K : Bool → Prop} : WB (.bool false) K k = K false := rfl
theorem WI_true {A B : Prop} : WI true A B k k = A := by simp [WI]
theorem WI_false {A B : Prop} : WI false A B k k = B := by simp [WI]
theorem WF_fn {f : Nat} {cap : List AV} {K : Nat → List AV → Prop} : WF (.fn f cap) K k = K f cap := rfl
theorem beq_tt : (true == true) = true := rfl
theorem beq_ff : (false == false) = true := rfl
theorem beq_tf : (true == false) = false := rfl
theorem beq_ft : (false == true) = false := rfl
theorem WB_dec {p : Prop} [Decidable p] {K : Bool → Prop} (h1 : p → K true) (h2 : ¬ p → K false) : WB (.bool (decide p)) K k := by
  by_cases h : p
  · simp [h, WB]; exact h1 h
  · simp [h, WB]; exact h2 h
theorem WB_cases {b : Bool} {K : Bool → Prop} (h1 : b = true → K true) (h2 : b = false → K false) : WB (.bool b) K k := by
  cases b
  · exact h2 rfl
  · exact h1 rfl

section
variable {e : Env} {h : AH} {Q : Env → AH → Prop} {R : X → Env → AH → Prop}

theorem w_skip : Cx .skip e h R k k = R .normal e h := propext WC_skip
theorem w_ret : Cx .ret e h R k k = R .ret e h := propext WC_ret
theorem w_exit {i : Nat} : Cx (.exit i) e h R k k = R (.exit i) e h := propext WC_exit
theorem w_reg {is : List I} : Cx (.reg is) e h R k k = Rx is e h (R .normal) k k := propext WC_reg
theorem w_drw0 {is : List I} : Cx (.drw is []) e h R k k = Rx is e h (R .normal) k k := by
  have key : ∀ cf, evDraw cf is [] e h = evR cf is e h := fun cf => by
    unfold evDraw; rw [if_pos]; intro p hp; cases hp
  apply propext
  unfold Cx Rx WC WR
  simp only [evC, key]
  constructor
  · rintro ⟨n, x, e', h', hev, hq⟩
    simp only [Option.map_eq_some_iff, Prod.mk.injEq] at hev
    obtain ⟨⟨e1, h1⟩, hev, rfl, rfl, rfl⟩ := hev
    exact ⟨n, e1, h1, hev, hq⟩
  · rintro ⟨n, e', h', hev, hq⟩
    exact ⟨n, .normal, e', h', by rw [hev]; rfl, hq⟩
theorem w_kl {ts : List Nat} {c : C} : Cx (.kl ts c) e h R k k = Cx c (e.dels ts) h R k k := propext WC_kl
theorem w_seq {a b : C} : Cx (.seq a b) e h R k k = Cx a e h (then' (fun e' h' => Cx b e' h' R k k) R) k k := propext (WC_seq hE)
theorem w_blk {i : Nat} {c : C} : Cx (.blk i c) e h R k k = Cx c e h (inBlk i R) k k := propext WC_blk
theorem w_cond {x : Opd} {a b : C} : Cx (.cond x a b) e h R k k = WB (env e x) (fun t => WI t (Cx a e h R k k) (Cx b e h R k k) k k) k := by
  apply propext
  unfold Cx
  cases hx : env e x with
  | bool t => rw [WC_cond hx]; simp only [WB, WI]
  | _ =>
    simp only [WB, iff_false]
    rintro ⟨n, y, e', h', hev, _⟩
    simp [evC, hx] at hev
theorem w_loop {c : C} : Cx (.loop c) e h R k k = Cx c e h (then' (fun e' h' => Cx (.loop c) e' h' R k k) R) k k := propext (WC_loop hE)
theorem w_loopb {c d : C} (hd : d = c) : Cx (.loop c) e h R k k = Cx d e h (then' (fun e' h' => Cx (.loop c) e' h' R k k) R) k k := by subst hd; exact w_loop
theorem del_eq (e : Env) (t : Nat) : e.del t = e.filter fun x => x.1 != t := by
  induction e with
  | nil => rfl
  | cons x e ih =>
    obtain ⟨u, v⟩ := x
    simp only [Env.del, List.filter_cons, ih]
    by_cases h : u = t <;> simp [h]
theorem dels_eq : ∀ (ts : List Nat) (e : Env), e.dels ts = e.filter fun x => !ts.contains x.1
  | [], e => by
    simp only [Env.dels, List.contains_nil, Bool.not_false]
    exact (List.filter_eq_self.2 (fun _ _ => rfl)).symm
  | t :: ts, e => by
    rw [Env.dels, dels_eq ts, del_eq, List.filter_filter]
    congr 1
    funext x
    by_cases h : x.1 = t <;> simp [h]
theorem dels_dels (e : Env) (ts : List Nat) : (e.dels ts).dels ts = e.dels ts := by
  rw [dels_eq, dels_eq, List.filter_filter]; simp
/-- At a loop's head the dead slots go. -/
theorem w_loopn {c c' : C} {ts : List Nat} (hc : c = .kl ts c') : Cx (.loop c) e h R k k = Cx (.loop c) (e.dels ts) h R k k := by
  subst hc
  rw [w_loop, w_loop (e := e.dels ts), w_kl, w_kl, dels_dels]
theorem then_n {K : Env → AH → Prop} : then' K R .normal e h = K e h := rfl
theorem then_e {K : Env → AH → Prop} {i : Nat} : then' K R (.exit i) e h = R (.exit i) e h := rfl
theorem then_r {K : Env → AH → Prop} : then' K R .ret e h = R .ret e h := rfl
theorem blk_n {i : Nat} : inBlk i R .normal e h = R .normal e h := rfl
theorem blk_r {i : Nat} : inBlk i R .ret e h = R .ret e h := rfl
theorem blk_e {i j : Nat} : inBlk i R (.exit j) e h = WI (j == i) (R .normal e h) (R (.exit j) e h) k k := by simp [inBlk, WI]

theorem w_nil : Rx [] e h Q k k = Q e h := propext WR_nil
def WOp (d : Option Nat) (op : AOp) (is : List I) (e : Env) (h : AH) (Q : Env → AH → Prop) (_ : Tag is) (_ : Tag Q) : Prop := match op with
  | .call f xs => S f (xs.map (env e)) h (fun v h' => Rx is (put e d v) h' Q k k) k
  | .callv x xs => WF (env e x) (fun f cap => S f (xs.map (env e) ++ cap) h (fun v h' => Rx is (put e d v) h' Q k k) k) k
  | op => Ox (evOp noCall (env e) h op) (fun v h' => Rx is (put e d v) h' Q k k) k
theorem w_op {d : Option Nat} {op : AOp} {is : List I} : Rx (⟨d, op, none⟩ :: is) e h Q k k = WOp d op is e h Q k k := by
  apply propext
  unfold Rx
  cases op <;> first
    | exact WR_op rfl
    | exact WR_call hE
    | (rename_i x xs
       simp only [WOp]
       cases hx : env e x with
       | fn f cap => rw [WR_callv hE hx]; rfl
       | _ =>
         simp only [WF, iff_false]
         rintro ⟨n, e', h', hev, _⟩
         simp [evR, evI, evOp, hx] at hev)
/-- A guard: heard, not heard, or on what was not done. -/
def WG (v : AV) (K : Bool → Prop) (A : Prop) (_ : Tag K) (_ : Tag A) : Prop := match v with
  | .bool t => K t
  | .tup [] => A
  | _ => False
theorem WG_bool {b : Bool} {K : Bool → Prop} {A : Prop} : WG (.bool b) K A k k = WB (.bool b) K k := rfl
theorem WG_skp {K : Bool → Prop} {A : Prop} : WG (.tup []) K A k k = A := rfl
theorem w_grd {d : Option Nat} {op : AOp} {is : List I} {t : Nat} {want : Bool} : Rx (⟨d, op, some (t, want)⟩ :: is) e h Q k k = WG (e.get t) (fun b => WI (b == want) (Rx (⟨d, op, none⟩ :: is) e h Q k k) (Rx is (put e d (.tup [])) h Q k k) k k) (Rx is (put e d (.tup [])) h Q k k) k k := by
  apply propext
  unfold Rx
  have bad : (∀ b, e.get t ≠ .bool b) → e.get t ≠ .tup [] → ¬ WR T E (⟨d, op, some (t, want)⟩ :: is) e h Q := by
    rintro h1 h2 ⟨n, e', h', hev, _⟩
    simp only [evR, evI] at hev
    cases hev
  cases hx : e.get t with
  | bool b => rw [WR_grd hx]; simp only [WG, WI, beq_iff_eq]
  | tup l =>
    cases l with
    | nil => rw [WR_grd0 hx]; rfl
    | cons a l =>
      simp only [WG, iff_false]
      exact bad (by rw [hx]; intro b; simp) (by rw [hx]; simp)
  | _ =>
    simp only [WG, iff_false]
    exact bad (by rw [hx]; intro b; simp) (by rw [hx]; simp)

theorem O_some {v : AV} {h : AH} {K : AV → AH → Prop} : Ox (some (v, h)) K k = K v h := rfl
theorem O_map {β : Type} {f : β → AV × AH} {b : β} {K : AV → AH → Prop} : Ox ((some b).map f) K k = K (f b).1 (f b).2 := rfl
theorem O_if {c : Prop} [Decidable c] {x : Option (AV × AH)} {K : AV → AH → Prop} : Ox (if c then x else none) K k = (c ∧ Ox x K k) := by
  unfold Ox; split <;> simp [*, WO]
theorem O_mapif {β : Type} {c : Prop} [Decidable c] {f : β → AV × AH} {x : Option β} {K : AV → AH → Prop} : Ox ((if c then x else none).map f) K k = (c ∧ Ox (x.map f) K k) := by
  unfold Ox; split <;> simp [*, WO]
theorem O_ite {c : Prop} [Decidable c] {x y : Option (AV × AH)} {K : AV → AH → Prop} : Ox (if c then x else y) K k = if c then Ox x K k else Ox y K k := by
  split <;> rfl

/-- Into a function of the table. -/
theorem S_of {f : Nat} {xs : List AV} {post : AV → AH → Prop} {fi : FI} (hEf : E f = none) (hT : T f = some fi)
    (hw : Cx fi.body (Env.init 0 xs) h (fun x e' h' => (x = .normal ∨ x = .ret) ∧ ∃ r, resV e' h' fi.res = some r ∧ post r h') k k) : S f xs h post k := Spec_of hEf hT hw
theorem S_ext {f : Nat} {xs : List AV} {post : AV → AH → Prop} {G : List AV → AH → Option AV} {r : AV} (hEf : E f = some (pureX G)) (hG : G xs h = some r) (hp : post r h) : S f xs h post k := Spec_ext hEf 0 (by simp [pureX, hG]) hp
theorem S_mono {f : Nat} {xs : List AV} {post post' : AV → AH → Prop} (hs : S f xs h post k) (hp : ∀ r h', post r h' → post' r h') : S f xs h post' k := Spec.mono hs hp
theorem Cx_mono {c : C} {R' : X → Env → AH → Prop} (hs : Cx c e h R k k) (hp : ∀ x e' h', R x e' h' → R' x e' h') : Cx c e h R' k k := WC.mono hs hp
end

/- The rules above, in bundles. -/
theorem zP : type_of% @w_kl ∧ type_of% @w_seq ∧ type_of% @w_reg ∧ type_of% @w_drw0 ∧ type_of% @w_blk ∧ type_of% @then_n ∧ type_of% @then_e ∧ type_of% @then_r ∧ type_of% @blk_n ∧
   type_of% @blk_e ∧ type_of% @blk_r ∧ type_of% @List.map_cons.{0,0} ∧ type_of% @List.map_nil.{0,0} := ⟨@w_kl, @w_seq, @w_reg, @w_drw0, @w_blk, @then_n, @then_e, @then_r, @blk_n,
   @blk_e, @blk_r, @List.map_cons.{0,0}, @List.map_nil.{0,0}⟩
theorem zW : type_of% @w_op ∧ type_of% @w_nil ∧ type_of% @w_cond ∧ type_of% @w_skip ∧ type_of% @w_exit ∧ type_of% @w_ret ∧ type_of% @w_grd ∧ type_of% @WG_bool ∧ type_of% @WG_skp ∧
   type_of% @WB_true ∧ type_of% @WB_false ∧ type_of% @WI_true ∧ type_of% @WI_false ∧ type_of% @WF_fn ∧ type_of% @beq_tt ∧ type_of% @beq_ff ∧ type_of% @beq_tf ∧ type_of% @beq_ft ∧
   type_of% @O_some ∧ type_of% @O_if ∧ type_of% @O_mapif ∧ type_of% @O_map ∧ type_of% @List.nil_append.{0} ∧ type_of% @List.cons_append.{0} ∧ type_of% @List.append_nil.{0} ∧
   type_of% @if_true.{1} ∧ type_of% @if_false.{1} ∧ type_of% @Option.map_some.{0,0} ∧ type_of% @Option.map_none.{0,0} ∧ type_of% @Option.bind_some.{0,0} ∧ type_of%
   @Option.some.injEq.{0} ∧ type_of% @Bool.not_true ∧ type_of% @Bool.not_false ∧ type_of% @Bool.false_eq_true ∧ type_of% @Bool.true_eq_false ∧ type_of% @decide_true ∧ type_of%
   @decide_false ∧ type_of% @true_and ∧ type_of% @and_true ∧ type_of% @false_and ∧ type_of% @and_false ∧ type_of% @true_or ∧ type_of% @or_true ∧ type_of% @false_or ∧ type_of%
   @or_false ∧ type_of% @Int.lt_irrefl ∧ type_of% @List.getElem?_cons_zero.{0} ∧ type_of% @List.getElem?_cons_succ.{0} ∧ type_of% @exists_eq_left'.{1} ∧ type_of%
   @List.length_cons.{0} ∧ type_of% @List.length_nil.{0} ∧ type_of% @List.all_cons.{0} ∧ type_of% @List.all_nil.{0} ∧ type_of% @List.take_succ_cons.{0} ∧ type_of%
   @List.take_zero.{0} ∧ type_of% @List.take_nil.{0} ∧ type_of% @List.drop_succ_cons.{0} ∧ type_of% @List.drop_zero.{0} ∧ type_of% @List.drop_nil.{0} ∧ type_of% @Bool.and_true ∧
   type_of% @Bool.true_and ∧ type_of% @Bool.false_and ∧ type_of% @Bool.and_false ∧ type_of% @Bool.and_self ∧ type_of% @Nat.le_refl ∧ type_of% @and_self ∧ type_of% @Nat.zero_add ∧
   type_of% @Int.toNat_natCast ∧ type_of% @Int.natCast_nonneg := ⟨@w_op, @w_nil, @w_cond, @w_skip, @w_exit, @w_ret, @w_grd, @WG_bool, @WG_skp, @WB_true, @WB_false, @WI_true,
   @WI_false, @WF_fn, @beq_tt, @beq_ff, @beq_tf, @beq_ft, @O_some, @O_if, @O_mapif, @O_map, @List.nil_append.{0}, @List.cons_append.{0}, @List.append_nil.{0}, @if_true.{1},
   @if_false.{1}, @Option.map_some.{0,0}, @Option.map_none.{0,0}, @Option.bind_some.{0,0}, @Option.some.injEq.{0}, @Bool.not_true, @Bool.not_false, @Bool.false_eq_true,
   @Bool.true_eq_false, @decide_true, @decide_false, @true_and, @and_true, @false_and, @and_false, @true_or, @or_true, @false_or, @or_false, @Int.lt_irrefl,
   @List.getElem?_cons_zero.{0}, @List.getElem?_cons_succ.{0}, @exists_eq_left'.{1}, @List.length_cons.{0}, @List.length_nil.{0}, @List.all_cons.{0}, @List.all_nil.{0},
   @List.take_succ_cons.{0}, @List.take_zero.{0}, @List.take_nil.{0}, @List.drop_succ_cons.{0}, @List.drop_zero.{0}, @List.drop_nil.{0}, @Bool.and_true, @Bool.true_and,
   @Bool.false_and, @Bool.and_false, @Bool.and_self, @Nat.le_refl, @and_self, @Nat.zero_add, @Int.toNat_natCast, @Int.natCast_nonneg⟩
theorem zL : type_of% @true_and ∧ type_of% @Nat.le_refl ∧ type_of% @List.length_append.{0} ∧ type_of% @List.length_cons.{0} ∧ type_of% @List.length_nil.{0} ∧ type_of%
   @List.length_map.{0,0} ∧ type_of% @List.length_set.{0} ∧ type_of% @List.length_take.{0} ∧ type_of% @List.length_drop.{0} := ⟨@true_and, @Nat.le_refl, @List.length_append.{0},
   @List.length_cons.{0}, @List.length_nil.{0}, @List.length_map.{0,0}, @List.length_set.{0}, @List.length_take.{0}, @List.length_drop.{0}⟩
end Go.Proofs.YtmlmfjjfciiblaaGreatDoor.Ab

/- FROM a function's answer in the abstract machine to what a row wants. -/
namespace Go.Proofs.YtmlmfjjfciiblaaGreatDoor.Ab
open Go Go.RowKit Go.ChangeShapes

theorem keptBut_below {W W' : World} (hb : Go.RowKit.Below W.heap.size W W') (may : MemPlace → Prop) : W.keptBut W' may := by
  refine ⟨hb.os, hb.output, fun i hi => ?_⟩
  rw [hb.block i hi]
  cases W.heap[i]? with
  | none => trivial
  | some o =>
    cases o <;> first
      | exact ⟨rfl, rfl, rfl, fun _ _ => rfl⟩
      | exact .inr ⟨rfl, rfl⟩
      | rfl

theorem frozen_below {W W' : World} (hb : Go.RowKit.Below W.heap.size W W') (a : Addr) (ha : a.block < W.heap.size) : W'.frozen? a = W.frozen? a := by
  simp only [World.frozen?, hb.block a.block ha]

section
variable {H : Type} {enc : TypeId × Value → H} {P : Program}
/-- What a call leaves that turns nothing old. -/
theorem post_below {f : Func} {s : ChangeSpec} {apart fresh handsOn again : Bool} {W W' : World} {args : Array Value} {v : Value} {ds gs : List (DataW H)} {before pa pv : List MemPlace}
    (hW : DataW.Whole enc P f.params.toList s.vars apart W args.toList ds gs before)
    (hres : ∀ (b : Nat) (sp : Nat → Bool) (hd : Bool), DataW.TrodAll enc P W' b sp hd f.resultTypes.toList (v.resultList f.resultTypes.size) (s.fn H (ds ++ gs)).results [])
    (hargs : ∀ sp : Nat → Bool, (∀ p ∈ before, sp p.block = true) → DataW.TrodAll enc P W' 0 sp true f.params.toList args.toList (s.fn H (ds ++ gs)).args pa)
    (hvars : ∀ sp : Nat → Bool, (∀ p ∈ before, sp p.block = true) → DataW.TrodVars enc P W' sp s.vars (s.fn H (ds ++ gs)).vars pv)
    (hps : before = pa ++ pv) (hb : Go.RowKit.Below W.heap.size W W')
    (hok : ∀ (j : Nat) (t : TypeId) (r : Value), f.resultTypes[j]? = some t → (v.resultList f.resultTypes.size)[j]? = some r → Value.okWide P W' .any 0 t r) :
    s.post enc P f apart fresh handsOn again W args v W' := by
  have hold : ∀ p ∈ before, (fun b => decide (b < W.heap.size)) p.block = true := fun p hp => by simpa using hW.lt p hp
  have hlt := hW.lt
  refine ⟨ds, gs, before, [], pa, pv, hW, hres _ _ _, hargs _ hold, hvars _ hold, World.keptBut_mono (fun p hp => ⟨hp, ?_⟩) (keptBut_below hb (· ∈ before)), fun _ => ?_⟩
  · rw [hps, List.mem_append] at hp
    exact Or.inr hp
  · obtain ⟨_, _, _, _, _, hz, hn⟩ := hW
    refine ⟨hok, _, _, ([] ++ pa) ++ pv, ⟨[] ++ pa, pv, trodAll_append (hargs _ (fun _ _ => rfl)) (hres _ _ _), hvars _ (fun _ _ => rfl), rfl, ?_, ?_⟩, ?_⟩
    · intro b off hp
      have hin : MemPlace.cell b off ∈ before := by rw [hps]; simpa using hp
      rw [frozen_below hb _ (show b < W.heap.size from hlt _ hin)]
      exact hz b off (by rw [hps]; simpa using hp)
    · intro ha
      have := hn ha
      rw [hps] at this
      simpa using this
    · intro p hp _
      rw [hps]
      simpa using hp
end

/-- A law that answers true. -/
theorem law_calls {P : Program} {F : Nat → Nat} (hs : ∀ n, Sound P F (evF T E n)) {f : Nat} {xs : List AV} {h : AH} (hS : S f xs h (fun r _ => r = .bool true) k) {m : Emb} {W : World} {args : Array Value} (hr : RelH F W.heap.size m h W) (hx : RelL F m xs args.toList) :
    Calls P (F f) args W fun e w' => e = .returned (.bool true) ∧ Go.RowKit.Below W.heap.size W w' := by
  obtain ⟨n, r, h', hev, rfl⟩ := hS
  obtain ⟨_, hc⟩ := hs n f xs h _ h' hev
  refine (hc W.heap.size m W args hr hx).mono ?_
  rintro e w' ⟨v, m', rfl, hv, hst⟩
  exact ⟨by rw [rel_bool hv], hst.below (Nat.le_refl _)⟩

/-- Nothing is known of the heap. -/
theorem rel_nothing (F : Nat → Nat) (W : World) : RelH F W.heap.size ⟨fun _ _ => none, fun _ => none⟩ [] W where
  rowc := by intro c k p h; cases h
  objc := by intro c b h; cases h
  ob := by intro c o h; simp at h
  inj := by intro c k p c' k' p' h; cases h
  injo := by intro c c' b h; cases h
  injr := by intro c k p c' b h; cases h
  ltr := by intro c k p h; cases h
  lto := by intro c b h; cases h
  vers := by intro c cs ver fl ro k p h; simp at h
  le := Nat.le_refl _
end Go.Proofs.YtmlmfjjfciiblaaGreatDoor.Ab

/- ARGUMENTS of a law: how they stand in the abstract machine's first state, and that they read as before behind the call. -/
namespace Go.Proofs.YtmlmfjjfciiblaaGreatDoor.Ab
open Go Go.RowKit Go.ChangeShapes Go.WideShapes Go.Deep

/-- One row that is read alone. -/
def emb1 (p : Place) : Emb := ⟨fun c k => if c = 0 ∧ k = 0 then some p else none, fun _ => none⟩
theorem rel_row {F : Nat → Nat} {W : World} {p : Place} {cs : List AV} {C : Array Value} {e : TypeId} {fr : Nat × Nat} (hb : W.heap[p.blk]? = some (.cells C e fr)) (hs : C.size = p.siz) (hlo : p.lo = 0) (hext : p.ext = cs.length) (hle : p.base + p.ext ≤ p.siz)
    (hv : ∀ j x, cs[j]? = some x → ∃ v, C[p.base + j]? = some v ∧ RelV F (emb1 p) x v) : RelH F W.heap.size (emb1 p) [.row cs 0 0 true] W := by
  have hlt : p.blk < W.heap.size := (Array.getElem?_eq_some_iff.1 hb).1
  have key : ∀ c k q, (emb1 p).row c k = some q → c = 0 ∧ k = 0 ∧ q = p := by
    intro c k q h
    simp only [emb1] at h
    split at h
    · rename_i hh; cases h; exact ⟨hh.1, hh.2, rfl⟩
    · cases h
  refine ⟨?_, ?_, ?_, ?_, ?_, ?_, ?_, ?_, ?_, Nat.le_refl _⟩
  · intro c k q h; obtain ⟨rfl, rfl, rfl⟩ := key c k q h; exact ⟨_, rfl, rfl⟩
  · intro c b h; cases h
  · intro c o ho
    cases c with
    | succ c => simp at ho
    | zero =>
      simp at ho
      subst ho
      intro k q hq hk
      obtain ⟨_, rfl, rfl⟩ := key 0 k q hq
      refine ⟨Nat.le_refl _, by omega, fun _ => hext, (fun h => by cases h), C, e, fr, hb, hs, by omega, (fun h => by cases h), ?_⟩
      intro j h1 h2
      have hj : j < cs.length := by omega
      obtain ⟨v, h3, h4⟩ := hv j cs[j] (by simp)
      exact ⟨cs[j], v, by simp, by rw [hlo]; simpa using h3, h4⟩
  · intro c k q c' k' q' h1 h2 h3 _
    obtain ⟨rfl, rfl, rfl⟩ := key c k q h1
    exact absurd hlt (by omega)
  · intro c c' b h; cases h
  · intro c k q c' b _ h; cases h
  · intro c k q h; obtain ⟨rfl, rfl, rfl⟩ := key c k q h; exact hlt
  · intro c b h; cases h
  · intro c cs' ver fl ro k q h1 h2
    obtain ⟨rfl, rfl, rfl⟩ := key c k q h2
    exact Nat.zero_le _

section
variable {H : Type} {enc : TypeId × Value → H} {P : Program}
/-- All arguments read behind the call as before. -/
theorem trodAll_stays (hl : laidOutB P = true) {W W' : World} (hb : Go.RowKit.Below W.heap.size W W') {sp : Nat → Bool} : ∀ {ts : List TypeId} {vs : List Value} {ds : List (DataW H)} {ps : List MemPlace},
    (∀ t ∈ ts, P.readableRec t = true ∧ t < P.types.size) → DataW.TrodAll enc P W 0 (fun _ => true) true ts vs ds ps → (∀ p ∈ ps, p.block < W.heap.size) → (∀ p ∈ ps, sp p.block = true) → DataW.TrodAll enc P W' 0 sp true ts vs ds ps
  | [], [], [], ps, _, h, _, _ => h
  | t :: ts, v :: vs, d :: ds, ps, ht, h, hlt, hsp => by
    obtain ⟨p, q, h1, h2, rfl⟩ := h
    obtain ⟨ht1, ht2⟩ := ht t (by simp)
    exact ⟨p, q, WideElems.Trod_stays hl ht1 ht2 h1 (fun x hx => hb.same (hlt x (by simp [hx]))) (fun x hx => hsp x (by simp [hx])), trodAll_stays hl hb (fun t' ht' => ht t' (by simp [ht'])) h2 (fun x hx => hlt x (by simp [hx])) (fun x hx => hsp x (by simp [hx])), rfl⟩
  | [], _ :: _, _, _, _, h, _, _ => by cases h
  | [], [], _ :: _, _, _, h, _, _ => by cases h
  | _ :: _, [], _, _, _, h, _, _ => by cases h
  | _ :: _, _ :: _, [], _, _, h, _, _ => by cases h
end
end Go.Proofs.YtmlmfjjfciiblaaGreatDoor.Ab

/- THE HEAP, as specs tell of it: what is kept, slices that are one's own, slices that are read. -/
namespace Go.Proofs.YtmlmfjjfciiblaaGreatDoor.Ab
open Go
set_option maxRecDepth 100000
set_option maxHeartbeats 4000000

/-- All that was there is there as it was. -/
def Pre (h h' : AH) : Prop := h.length ≤ h'.length ∧ ∀ c, c < h.length → h'[c]? = h[c]?
theorem Pre.refl (h : AH) : Pre h h := ⟨Nat.le_refl _, fun _ _ => rfl⟩
theorem Pre.trans {a b c : AH} (x : Pre a b) (y : Pre b c) : Pre a c := ⟨Nat.le_trans x.1 y.1, fun i hi => by rw [y.2 i (Nat.lt_of_lt_of_le hi x.1), x.2 i hi]⟩
theorem Pre.push (h : AH) (o : AO) : Pre h (h ++ [o]) := ⟨by simp, fun c hc => List.getElem?_append_left hc⟩
theorem Pre.set {h0 h : AH} {c : Nat} {o : AO} (x : Pre h0 h) (hc : h0.length ≤ c) : Pre h0 (h.set c o) := ⟨by simpa using x.1, fun i hi => by rw [List.getElem?_set]; rw [if_neg (by omega)]; exact x.2 i hi⟩

/-- A slice that holds cs (cells). -/
def Sl (h : AH) (esz : Nat) (v : AV) (n : Nat) (cs : List AV) : Prop := match v with
  | .nilS | .empS => n = 0 ∧ cs = []
  | .slice c k off len e => e = esz ∧ len = n ∧ n * esz = cs.length ∧ rdRow h c k off (n * esz) = some cs
  | _ => False
theorem rdRow_pre {h h' : AH} (hp : Pre h h') {c k off n : Nat} {cs : List AV} (hr : rdRow h c k off n = some cs) : rdRow h' c k off n = some cs := by
  have hlt : c < h.length := by
    unfold rdRow at hr; split at hr
    · rename_i hh; exact (List.getElem?_eq_some_iff.1 hh).1
    · cases hr
  unfold rdRow at hr ⊢
  rw [hp.2 c hlt]; exact hr
theorem Sl.pre {h h' : AH} (hp : Pre h h') {esz : Nat} {v : AV} {n : Nat} {cs : List AV} (hs : Sl h esz v n cs) : Sl h' esz v n cs := by
  cases v <;> simp only [Sl] at hs ⊢ <;> first
    | exact hs
    | (obtain ⟨h1, h2, h3, h4⟩ := hs; exact ⟨h1, h2, h3, rdRow_pre hp h4⟩)

/-- A slice whose row was made behind h0, and which ends where the row ends. -/
def Own (esz : Nat) (h0 h : AH) (v : AV) (n : Nat) (cs : List AV) : Prop := match v with
  | .nilS | .empS => n = 0 ∧ cs = []
  | .slice c k off len e => e = esz ∧ len = n ∧ n * esz = cs.length ∧ h0.length ≤ c ∧ ∃ cells fl, h[c]? = some (.row cells k fl false) ∧ fl ≤ k ∧ off + n * esz = cells.length ∧ cells.drop off = cs
  | _ => False
theorem Own.sl {esz : Nat} {h0 h : AH} {v : AV} {n : Nat} {cs : List AV} (ho : Own esz h0 h v n cs) : Sl h esz v n cs := by
  cases v <;> simp only [Own, Sl] at ho ⊢ <;> first
    | exact ho
    | (obtain ⟨h1, h2, h3, h4, cells, fl, h5, h6, h7, h8⟩ := ho
       refine ⟨h1, h2, h3, ?_⟩
       unfold rdRow
       rw [h5]
       simp only
       rw [if_pos ⟨h6, Nat.le_refl _, by omega⟩, h8, List.take_of_length_le (by omega)])
theorem Own.pre {esz : Nat} {h0 h h' : AH} (hp : Pre h h') {v : AV} {n : Nat} {cs : List AV} (ho : Own esz h0 h v n cs) : Own esz h0 h' v n cs := by
  cases v <;> simp only [Own] at ho ⊢ <;> first
    | exact ho
    | (obtain ⟨h1, h2, h3, h4, cells, fl, h5, h6⟩ := ho
       exact ⟨h1, h2, h3, h4, cells, fl, by rw [hp.2 _ (List.getElem?_eq_some_iff.1 h5).1]; exact h5, h6⟩)

/-- append to a slice of one's own. -/
theorem ap_own {esz : Nat} {h0 h : AH} {v : AV} {n : Nat} {cs : List AV} (ho : Own esz h0 h v n cs) (hp : Pre h0 h) {q : Nat} {vs : List AV} (hq : q * esz = vs.length) (hsc : vs.all AV.sc = true) (hroom : n + q ≤ room) :
    ∃ v' h', apRow h esz v q vs = some (v', h') ∧ Own esz h0 h' v' (n + q) (cs ++ vs) ∧ Pre h0 h' := by
  have fresh : n = 0 → cs = [] → q ≠ 0 → ∃ v' h', ((newRow h vs).map fun (c, h') => (AV.slice c 0 0 q esz, h')) = some (v', h') ∧ Own esz h0 h' v' (n + q) (cs ++ vs) ∧ Pre h0 h' := by
    rintro rfl rfl _
    refine ⟨.slice h.length 0 0 q esz, h ++ [.row vs 0 0 false], by simp only [newRow, hsc, if_true, Option.map_some], ?_, hp.trans (Pre.push _ _)⟩
    simp only [Own, List.nil_append, Nat.zero_add]
    exact ⟨trivial, trivial, hq, hp.1, vs, 0, by simp, Nat.le_refl _, by omega, rfl⟩
  cases v <;> simp only [Own] at ho <;> try (exact ho.elim)
  · obtain ⟨rfl, rfl⟩ := ho
    simp only [apRow]
    by_cases h0 : q = 0
    · subst h0
      have : vs = [] := List.eq_nil_of_length_eq_zero (by omega)
      subst this
      exact ⟨_, _, by rw [if_pos rfl], by simp [Own], hp⟩
    · rw [if_neg h0, if_pos (by omega)]; exact fresh rfl rfl h0
  · obtain ⟨rfl, rfl⟩ := ho
    simp only [apRow]
    by_cases h0 : q = 0
    · subst h0
      have : vs = [] := List.eq_nil_of_length_eq_zero (by omega)
      subst this
      exact ⟨_, _, by rw [if_pos rfl], by simp [Own], hp⟩
    · rw [if_neg h0, if_pos (by omega)]; exact fresh rfl rfl h0
  · rename_i c k off len e
    obtain ⟨rfl, rfl, h3, h4, cells, fl, h5, h6, h7, h8⟩ := ho
    have hlt := (List.getElem?_eq_some_iff.1 h5).1
    simp only [apRow, h5]
    rw [if_pos (by exact ⟨trivial, trivial, h7, h6, hsc, hroom⟩)]
    refine ⟨_, _, rfl, ?_, hp.set h4⟩
    simp only [Own]
    refine ⟨trivial, trivial, by rw [Nat.add_mul, h3, hq, List.length_append], h4, cells ++ vs, fl, by rw [List.getElem?_set, if_pos rfl, if_pos hlt], by omega, ?_, ?_⟩
    · rw [Nat.add_mul, List.length_append]; omega
    · rw [List.drop_append_of_le_length (by omega), h8]
theorem rdRow_push (h : AH) (cs : List AV) (ro : Bool) {n : Nat} (hn : n = cs.length) : rdRow (h ++ [.row cs 0 0 ro]) h.length 0 0 n = some cs := by
  subst hn
  unfold rdRow
  rw [List.getElem?_append_right (Nat.le_refl _)]
  simp
/-- The row that was made last. -/
theorem rd_last (h : AH) (cs : List AV) (ro : Bool) (off n : Nat) : rdRow (h ++ [.row cs 0 0 ro]) h.length 0 off n = if off + n ≤ cs.length then some ((cs.drop off).take n) else none := by
  unfold rdRow
  rw [List.getElem?_append_right (Nat.le_refl _)]
  simp
end Go.Proofs.YtmlmfjjfciiblaaGreatDoor.Ab

/- REGIONS of drawn order with reads beside: the states between are looked at. -/
namespace Go.Proofs.YtmlmfjjfciiblaaGreatDoor.Ab
open Go

/-- Operation by operation; the states before each are collected. -/
def Tr : List I → List (Env × AH) → Env → AH → (List (Env × AH) → Env → AH → Prop) → Prop
  | [], acc, e, h, Q => Q acc e h
  | i :: is, acc, e, h, Q => Rx [i] e h (fun e' h' => Tr is (acc ++ [(e, h)]) e' h' Q) k k

theorem Tr_runs : ∀ (is : List I) (acc : List (Env × AH)) (e : Env) (h : AH) (Q : List (Env × AH) → Env → AH → Prop), Tr is acc e h Q → ∃ n e' h' tr, evR (evF T E n) is e h = some (e', h') ∧ tr.length = is.length ∧
    (∀ i s, tr[i]? = some s → stateAt (evF T E n) is i e h = some s) ∧ Q (acc ++ tr) e' h'
  | [], acc, e, h, Q, hq => ⟨0, e, h, [], rfl, rfl, fun i s hs => by simp at hs, by simpa [Tr] using hq⟩
  | i :: is, acc, e, h, Q, hq => by
    simp only [Tr, Rx] at hq
    obtain ⟨n1, e1, h1, hev1, hq⟩ := hq
    obtain ⟨n2, e', h', tr, hev2, hlen, hst, hQ⟩ := Tr_runs is _ e1 h1 Q hq
    simp only [evR] at hev1
    split at hev1
    case h_2 => cases hev1
    rename_i e1' h1' hi
    simp only [Option.some.injEq, Prod.mk.injEq] at hev1
    obtain ⟨rfl, rfl⟩ := hev1
    have hi' := evI_mono (evF_mono (T := T) hE (Nat.le_max_left n1 n2)) hi
    refine ⟨max n1 n2, e', h', (e, h) :: tr, ?_, by simp [hlen], ?_, by simpa using hQ⟩
    · simp only [evR, hi']
      exact evR_mono (evF_mono hE (Nat.le_max_right n1 n2)) hev2
    · intro j s hs
      cases j with
      | zero => simp at hs; subst hs; simp [stateAt, evR]
      | succ j =>
        simp at hs
        have := evR_mono (evF_mono (T := T) hE (Nat.le_max_right n1 n2)) (hst j s hs)
        simp only [stateAt, List.take_succ_cons, evR, hi']
        exact this

/-- What a read sees does not turn by another operation. -/
def StT (is : List I) (tr : List (Env × AH)) (p : Nat × Nat) : Prop := match is[p.1]?, tr[p.1]?, tr[p.2]?, tr[p.2 + 1]? with
  | some o, some s1, some s2, some s3 => (evOp noCall (env s1.1) s2.2 o.op).map (·.1) = (evOp noCall (env s1.1) s3.2 o.op).map (·.1)
  | _, _, _, _ => False
def StA (is : List I) (tr : List (Env × AH)) : List (Nat × Nat) → Prop
  | [] => True
  | p :: ps => StT is tr p ∧ StA is tr ps
theorem StA_all {is : List I} {tr : List (Env × AH)} : ∀ {ps : List (Nat × Nat)}, StA is tr ps → ∀ p ∈ ps, StT is tr p
  | [], _, _, h => by cases h
  | q :: ps, hs, p, h => by
    rcases List.mem_cons.1 h with rfl | h
    · exact hs.1
    · exact StA_all hs.2 p h
theorem w_drw {is : List I} {ps : List (Nat × Nat)} {e : Env} {h : AH} {R : X → Env → AH → Prop} (ht : Tr is [] e h fun tr e' h' => StA is (tr ++ [(e', h')]) ps ∧ R .normal e' h') : Cx (.drw is ps) e h R k k := by
  obtain ⟨n, e', h', tr, hev, hlen, hst, hstab, hR⟩ := Tr_runs is [] e h _ ht
  refine ⟨n, .normal, e', h', ?_, hR⟩
  simp only [evC]
  have : evDraw (evF T E n) is ps e h = some (e', h') := by
    unfold evDraw
    rw [if_pos]
    · exact hev
    · intro p hp o e1 h1 e2 h2 e3 h3 k0 k1 k2 k3
      have hs := StA_all hstab p hp
      simp only [List.nil_append] at hs
      have all : ∀ i s, (tr ++ [(e', h')])[i]? = some s → stateAt (evF T E n) is i e h = some s := by
        intro i s hs
        by_cases hi : i < tr.length
        · rw [List.getElem?_append_left hi] at hs; exact hst i s hs
        · have hie : i = tr.length := by
            by_cases hie : i = tr.length
            · exact hie
            · rw [List.getElem?_eq_none (by simp; omega)] at hs; cases hs
          subst hie
          rw [List.getElem?_append_right (Nat.le_refl _)] at hs
          simp at hs
          subst hs
          rw [hlen]; simp [stateAt, hev]
      unfold StT at hs
      split at hs
      · rename_i o' s1 s2 s3 g0 g1 g2 g3
        rw [k0] at g0; cases g0
        have q1 := all _ _ g1; have q2 := all _ _ g2; have q3 := all _ _ g3
        rw [k1] at q1; rw [k2] at q2; rw [k3] at q3
        cases q1; cases q2; cases q3
        exact hs
      · exact hs.elim
  rw [this]; rfl
end Go.Proofs.YtmlmfjjfciiblaaGreatDoor.Ab

/- QUICK lemmas for the simplifier: tests that the context decides, wraps that do nothing, answers as equations. -/
namespace Go.Proofs.YtmlmfjjfciiblaaGreatDoor.Ab
open Go
set_option maxRecDepth 100000
set_option maxHeartbeats 4000000

theorem lt_t {a b : Int} (h : a < b) : (a < b) = True := eq_true h
theorem lt_f {a b : Int} (h : b ≤ a) : (a < b) = False := eq_false (by omega)
theorem le_t {a b : Int} (h : a ≤ b) : (a ≤ b) = True := eq_true h
theorem le_f {a b : Int} (h : b < a) : (a ≤ b) = False := eq_false (by omega)
theorem gt_t {a b : Int} (h : b < a) : (a > b) = True := eq_true h
theorem gt_f {a b : Int} (h : a ≤ b) : (a > b) = False := eq_false (by omega)
theorem ge_t {a b : Int} (h : b ≤ a) : (a ≥ b) = True := eq_true h
theorem ge_f {a b : Int} (h : a < b) : (a ≥ b) = False := eq_false (by omega)
theorem beq_t {a b : Int} (h : a = b) : (a == b) = true := by simp [h]
theorem beq_f {a b : Int} (h : a ≠ b) : (a == b) = false := by simp [h]
theorem bne_t {a b : Int} (h : a ≠ b) : (a != b) = true := by simp [h]
theorem bne_f {a b : Int} (h : a = b) : (a != b) = false := by simp [h]
theorem nlt_t {a b : Nat} (h : a < b) : (a < b) = True := eq_true h
theorem nlt_f {a b : Nat} (h : b ≤ a) : (a < b) = False := eq_false (by omega)
theorem nle_t {a b : Nat} (h : a ≤ b) : (a ≤ b) = True := eq_true h
theorem nle_f {a b : Nat} (h : b < a) : (a ≤ b) = False := eq_false (by omega)
theorem neq_t {a b : Nat} (h : a = b) : (a = b) = True := eq_true h
theorem neq_f {a b : Nat} (h : a ≠ b) : (a = b) = False := eq_false h
theorem wrap_i {n : Int} (h : -9223372036854775808 ≤ n ∧ n ≤ 9223372036854775807) : IntKind.i64.wrap n = n := by rw [IntKind.wrap_i64]; omega
theorem u8c (b c : UInt8) : ((b.toNat : Int) == (c.toNat : Int)) = (b == c) := by
  by_cases h : b = c
  · subst h; simp
  · have : ¬ ((b.toNat : Int) = (c.toNat : Int)) := fun hh => h (UInt8.toNat_inj.1 (by omega))
    rw [beq_eq_false_iff_ne.2 h, beq_eq_false_iff_ne.2 this]
theorem u8n (b c : UInt8) : ((b.toNat : Int) != (c.toNat : Int)) = !(b == c) := by rw [bne, u8c]
theorem u8T (b : UInt8) : ((b.toNat : Int) == 84) = (b == 84) := u8c b 84
theorem u8F (b : UInt8) : ((b.toNat : Int) == 70) = (b == 70) := u8c b 70
theorem u8D (b : UInt8) : ((b.toNat : Int) == 46) = (b == 46) := u8c b 46
theorem u8nT (b : UInt8) : ((b.toNat : Int) != 84) = !(b == 84) := u8n b 84
theorem u8nF (b : UInt8) : ((b.toNat : Int) != 70) = !(b == 70) := u8n b 70
theorem u8nD (b : UInt8) : ((b.toNat : Int) != 46) = !(b == 46) := u8n b 46
theorem rd_app {h l : AH} {c k off n : Nat} (hc : c < h.length) : rdRow (h ++ l) c k off n = rdRow h c k off n := by
  unfold rdRow; rw [List.getElem?_append_left hc]
theorem wr_last {h : AH} {cs : List AV} {ver fl k off : Nat} {vs : List AV} : wrRow (h ++ [.row cs ver fl false]) h.length k off vs = if k = ver ∧ fl ≤ ver ∧ off + vs.length ≤ cs.length ∧ vs.all AV.sc = true then some (h ++ [.row (splice cs off vs) ver ver false]) else none := by
  unfold wrRow
  rw [List.getElem?_append_right (Nat.le_refl _)]
  simp only [Nat.sub_self, List.getElem?_cons_zero]
  split
  · rw [List.set_append_right _ _ (Nat.le_refl _)]; simp
  · rfl
theorem wr_lasT {h : AH} {cs : List AV} {ver fl k off : Nat} {vs : List AV} (hc : k = ver ∧ fl ≤ ver ∧ off + vs.length ≤ cs.length) : wrRow (h ++ [.row cs ver fl false]) h.length k off vs = if vs.all AV.sc = true then some (h ++ [.row (splice cs off vs) ver ver false]) else none := by
  rw [wr_last]
  by_cases hs : vs.all AV.sc = true
  · rw [if_pos ⟨hc.1, hc.2.1, hc.2.2, hs⟩, if_pos hs]
  · rw [if_neg (fun x => hs x.2.2.2), if_neg hs]
theorem rd_lasT {h : AH} {cs : List AV} {ver fl k off n : Nat} {ro : Bool} (hc : fl ≤ k ∧ k ≤ ver ∧ off + n ≤ cs.length) : rdRow (h ++ [.row cs ver fl ro]) h.length k off n = some ((cs.drop off).take n) := by
  unfold rdRow
  rw [List.getElem?_append_right (Nat.le_refl _)]
  simp only [Nat.sub_self, List.getElem?_cons_zero]
  rw [if_pos hc]
theorem add_ok {n : Nat} {s : List UInt8} (h : n ≤ 9223372036854775807) : (if n ≤ two63 then some (AV.str s) else none) = some (AV.str s) := if_pos h
theorem wr_app {h l : AH} {c k off : Nat} {vs : List AV} (hc : c < h.length) : wrRow (h ++ l) c k off vs = (wrRow h c k off vs).map fun h' => h' ++ l := by
  unfold wrRow
  have hs : ∀ o, List.set (h ++ l) c o = List.set h c o ++ l := fun o => List.set_append_left _ _ hc
  rw [List.getElem?_append_left hc]
  simp only [hs]
  cases h[c]? with
  | none => rfl
  | some o =>
    cases o with
    | row cs ver fl ro =>
      cases ro
      · simp only
        split <;> rfl
      · rfl
    | map es => rfl
    | iter s p => rfl
theorem wr_of {h : AH} {c : Nat} {cs : List AV} {ver fl : Nat} (hr : h[c]? = some (.row cs ver fl false)) {k off : Nat} {vs : List AV} (hc : k = ver ∧ fl ≤ ver ∧ off + vs.length ≤ cs.length) : wrRow h c k off vs = if vs.all AV.sc = true then some (h.set c (.row (splice cs off vs) ver ver false)) else none := by
  unfold wrRow
  rw [hr]
  simp only
  by_cases hs : vs.all AV.sc = true
  · rw [if_pos ⟨hc.1, hc.2.1, hc.2.2, hs⟩, if_pos hs]
  · rw [if_neg (fun x => hs x.2.2.2), if_neg hs]
theorem rd_of {h : AH} {c : Nat} {cs : List AV} {ver fl : Nat} {ro : Bool} (hr : h[c]? = some (.row cs ver fl ro)) {k off n : Nat} (hc : fl ≤ k ∧ k ≤ ver ∧ off + n ≤ cs.length) : rdRow h c k off n = some ((cs.drop off).take n) := by
  unfold rdRow
  rw [hr]
  exact if_pos hc
theorem rd_set {h : AH} {c : Nat} {cs : List AV} {ver fl : Nat} {ro : Bool} {k off n : Nat} (hc : c < h.length) (hk : fl ≤ k ∧ k ≤ ver ∧ off + n ≤ cs.length) : rdRow (h.set c (.row cs ver fl ro)) c k off n = some ((cs.drop off).take n) :=
  rd_of (by rw [List.getElem?_set, if_pos rfl, if_pos hc]) hk
theorem rd_ne {h : AH} {c d : Nat} {o : AO} {k off n : Nat} (hd : c ≠ d) : rdRow (h.set c o) d k off n = rdRow h d k off n := by
  unfold rdRow
  rw [List.getElem?_set, if_neg hd]
theorem pre_last {h h2 : AH} {o : AO} (hp : Pre (h ++ [o]) h2) : h2[h.length]? = some o := by
  rw [hp.2 _ (by simp)]; simp
theorem pre_of_last {h h2 : AH} {o : AO} (hp : Pre (h ++ [o]) h2) : Pre h h2 := (Pre.push h o).trans hp
theorem pre_set_last {h h2 : AH} {o o' : AO} (hp : Pre (h ++ [o]) h2) : Pre h (h2.set h.length o') := (pre_of_last hp).set (Nat.le_refl _)
theorem pre_last_lt {h h2 : AH} {o : AO} (hp : Pre (h ++ [o]) h2) : h.length < h2.length := by have := hp.1; simp at this; omega
abbrev byL (s : List UInt8) : List AV := s.map fun b => AV.int .u8 b.toNat
theorem sc_bytes (s : List UInt8) : (s.map fun b => AV.int .u8 b.toNat).all AV.sc = true := by simp [AV.sc]
theorem bytesL_map : ∀ s : List UInt8, bytesL (s.map fun b => AV.int .u8 b.toNat) = some s
  | [] => rfl
  | b :: s => by simp only [List.map_cons, bytesL, byte1, bytesL_map s]; simp
theorem splice_one {α : Type} {l : List α} {off : Nat} {v : α} (h : off < l.length) : splice l off [v] = l.set off v := by
  unfold splice
  rw [List.set_eq_take_append_cons_drop, if_pos h]; simp
theorem splB {w : List UInt8} {i : Nat} {b : UInt8} (h : i < w.length) : splice (w.map fun b => AV.int .u8 b.toNat) (i * 1) [.int .u8 (b.toNat : Int)] = (w.set i b).map fun b => AV.int .u8 b.toNat := by
  rw [Nat.mul_one, splice_one (by simpa using h), List.map_set]
theorem splD {w : List UInt8} {i : Nat} (h : i < w.length) : splice (w.map fun b => AV.int .u8 b.toNat) (i * 1) [.int .u8 46] = (w.set i 46).map fun b => AV.int .u8 b.toNat := splB (b := 46) h
theorem tkB {w : List UInt8} {i : Nat} (h : i < w.length) : ((w.map fun b => AV.int .u8 b.toNat).drop (i * 1)).take 1 = [.int .u8 ((w.getD i 0).toNat : Int)] := by
  rw [Nat.mul_one, ← List.map_drop, List.drop_eq_getElem_cons h, List.map_cons, List.take_succ_cons, List.take_zero]
  simp [List.getD_eq_getElem?_getD, h]
theorem take_all {α : Type} {l : List α} {n : Nat} (h : l.length ≤ n) : l.take n = l := List.take_of_length_le h
theorem getD_nat (s : List UInt8) (i : Nat) : s.getD (i : Int).toNat 0 = s.getD i 0 := by simp

/-- An answer is the only one. -/
theorem S_eq {f : Nat} {xs : List AV} {h : AH} {r : AV} {h' : AH} {post : AV → AH → Prop} (hs : ∀ post : AV → AH → Prop, post r h' → S f xs h post k) : S f xs h post k = post r h' := by
  apply propext
  constructor
  · rintro ⟨n, r1, h1, e1, hp⟩
    obtain ⟨m, r2, h2, e2, rfl, rfl⟩ := hs (fun r1 h1 => r1 = r ∧ h1 = h') ⟨rfl, rfl⟩
    have k1 := evF_mono (T := T) hE (Nat.le_max_left n m) _ _ _ _ e1
    have k2 := evF_mono (T := T) hE (Nat.le_max_right n m) _ _ _ _ e2
    rw [k1] at k2
    simp only [Option.some.injEq, Prod.mk.injEq] at k2
    obtain ⟨rfl, rfl⟩ := k2
    exact hp
  · exact hs post
theorem S_exte {f : Nat} {xs : List AV} {h : AH} {G : List AV → AH → Option AV} {r : AV} (hEf : E f = some (pureX G)) (hG : G xs h = some r) {post : AV → AH → Prop} : S f xs h post k = post r h := S_eq fun _ hp => S_ext hEf hG hp

/- The rules above, in bundles. -/
theorem zR : type_of% @splB ∧ type_of% @splD := ⟨@splB, @splD⟩
theorem zQ : type_of% @beq_self_eq_true.{0} ∧ type_of% @lt_t ∧ type_of% @lt_f ∧ type_of% @le_t ∧ type_of% @le_f ∧ type_of% @gt_t ∧ type_of% @gt_f ∧ type_of% @ge_t ∧ type_of% @ge_f ∧
   type_of% @beq_t ∧ type_of% @beq_f ∧ type_of% @bne_t ∧ type_of% @bne_f ∧ type_of% @wrap_i ∧ type_of% @u8c ∧ type_of% @u8n ∧ type_of% @u8T ∧ type_of% @u8F ∧ type_of% @u8D ∧
   type_of% @u8nT ∧ type_of% @u8nF ∧ type_of% @u8nD ∧ type_of% @getD_nat ∧ type_of% @rd_lasT ∧ type_of% @rd_app ∧ type_of% @wr_lasT ∧ type_of% @wr_app ∧ type_of% @rd_set ∧ type_of%
   @rd_ne ∧ type_of% @add_ok ∧ type_of% @tkB ∧ type_of% @take_all ∧ type_of% @bytesL_map := ⟨@beq_self_eq_true.{0}, @lt_t, @lt_f, @le_t, @le_f, @gt_t, @gt_f, @ge_t, @ge_f, @beq_t,
   @beq_f, @bne_t, @bne_f, @wrap_i, @u8c, @u8n, @u8T, @u8F, @u8D, @u8nT, @u8nF, @u8nD, @getD_nat, @rd_lasT, @rd_app, @wr_lasT, @wr_app, @rd_set, @rd_ne, @add_ok, @tkB, @take_all,
   @bytesL_map⟩
end Go.Proofs.YtmlmfjjfciiblaaGreatDoor.Ab

/- TYPED slices: what a slice holds, element by element. -/
namespace Go.Proofs.YtmlmfjjfciiblaaGreatDoor.Ab
open Go
set_option maxRecDepth 100000
set_option maxHeartbeats 4000000

section
variable {α : Type} (esz : Nat) (enc : α → List AV)
def Slc (h : AH) (v : AV) (L : List α) : Prop := Sl h esz v L.length (L.flatMap enc)
def OwL (h0 h : AH) (v : AV) (L : List α) : Prop := Own esz h0 h v L.length (L.flatMap enc)
end
section
variable {α : Type} {esz : Nat} {enc : α → List AV}
theorem flat_len (hl : ∀ x, (enc x).length = esz) : ∀ L : List α, (L.flatMap enc).length = L.length * esz
  | [] => by simp
  | x :: L => by rw [List.flatMap_cons, List.length_append, hl, flat_len hl L, List.length_cons, Nat.succ_mul]; omega
theorem flat_at (hl : ∀ x, (enc x).length = esz) (pre : List α) (x : α) (rest : List α) : (((pre ++ x :: rest).flatMap enc).drop (pre.length * esz)).take esz = enc x := by
  rw [List.flatMap_append, List.flatMap_cons, List.drop_left' (flat_len hl pre), List.take_left' (hl x)]
theorem rd_part {h : AH} {c k off n : Nat} {cs : List AV} (hr : rdRow h c k off n = some cs) {o m : Nat} (ho : o + m ≤ n) : rdRow h c k (off + o) m = some ((cs.drop o).take m) := by
  unfold rdRow at hr ⊢
  split at hr
  · rename_i cells ver fl _ hh
    split at hr
    · rename_i hc
      cases hr
      rw [if_pos ⟨hc.1, hc.2.1, by omega⟩, List.drop_take, List.take_take, Nat.min_eq_left (by omega), List.drop_drop]
    · cases hr
  · cases hr
theorem Slc.pre {h h' : AH} (hp : Pre h h') {v : AV} {L : List α} (hs : Slc esz enc h v L) : Slc esz enc h' v L := Sl.pre hp hs
theorem OwL.slc {h0 h : AH} {v : AV} {L : List α} (ho : OwL esz enc h0 h v L) : Slc esz enc h v L := Own.sl ho
theorem OwL.pre {h0 h h' : AH} (hp : Pre h h') {v : AV} {L : List α} (ho : OwL esz enc h0 h v L) : OwL esz enc h0 h' v L := Own.pre hp ho
theorem OwL.old {h0 h1 h : AH} {v : AV} {L : List α} (ho : OwL esz enc h1 h v L) (hp : h0.length ≤ h1.length) : OwL esz enc h0 h v L := by
  unfold OwL Own at ho ⊢
  split at ho
  · exact ho
  · exact ho
  · obtain ⟨h1, h2, h3, h4, h5⟩ := ho; exact ⟨h1, h2, h3, Nat.le_trans hp h4, h5⟩
  · exact ho
theorem Slc.nil {h : AH} : Slc esz enc h .nilS ([] : List α) := ⟨rfl, rfl⟩
theorem Slc.emp {h : AH} : Slc esz enc h .empS ([] : List α) := ⟨rfl, rfl⟩
theorem OwL.nil {h0 h : AH} : OwL esz enc h0 h .nilS ([] : List α) := ⟨rfl, rfl⟩
theorem OwL.emp {h0 h : AH} : OwL esz enc h0 h .empS ([] : List α) := ⟨rfl, rfl⟩
/-- Which slice it is, and what its element is. -/
theorem Slc.at (hl : ∀ x, (enc x).length = esz) {h : AH} {v : AV} {pre : List α} {x : α} {rest : List α} (hs : Slc esz enc h v (pre ++ x :: rest)) : ∃ c kk off, v = .slice c kk off (pre ++ x :: rest).length esz ∧ rdRow h c kk (off + pre.length * esz) esz = some (enc x) := by
  unfold Slc at hs
  cases v <;> simp only [Sl] at hs <;> first
    | (exact hs.elim)
    | (have := hs.1; simp at this; done)
    | skip
  rename_i c kk off len e
  obtain ⟨rfl, rfl, h3, h4⟩ := hs
  refine ⟨c, kk, off, rfl, ?_⟩
  rw [rd_part h4 (by rw [← Nat.succ_mul]; exact Nat.mul_le_mul_right _ (by simp)), flat_at hl]
theorem Slc.rd (hl : ∀ x, (enc x).length = esz) {h : AH} {c kk off n e : Nat} {pre : List α} {x : α} {rest : List α} (hs : Slc esz enc h (.slice c kk off n e) (pre ++ x :: rest)) : rdRow h c kk (off + pre.length * esz) esz = some (enc x) := by
  obtain ⟨c', k', o', he, hr⟩ := hs.at hl
  cases he; exact hr
theorem Slc.all {h : AH} {c kk off n e : Nat} {L : List α} (hs : Slc esz enc h (.slice c kk off n e) L) : n = L.length ∧ e = esz ∧ rdRow h c kk off (n * esz) = some (L.flatMap enc) := by
  unfold Slc at hs
  simp only [Sl] at hs
  obtain ⟨h1, h2, _, h4⟩ := hs
  exact ⟨h2, h1, by rw [h2]; exact h4⟩
theorem Slc.lenV {h : AH} {v : AV} {L : List α} (hs : Slc esz enc h v L) {g : AH} {ρ : Opd → AV} {x : Opd} (hx : ρ x = v) : evOp noCall ρ g (.lenV x) = some (.int .i64 L.length, g) := by
  unfold Slc at hs
  simp only [evOp, hx]
  cases v <;> simp only [Sl] at hs <;> first
    | (exact hs.elim)
    | (have := hs.1; simp only [this]; rfl)
    | (obtain ⟨_, rfl, _⟩ := hs; rfl)
theorem Slc.cases {h : AH} {v : AV} {L : List α} (hs : Slc esz enc h v L) : (v = .nilS ∧ L = []) ∨ (v = .empS ∧ L = []) ∨ ∃ c kk off, v = .slice c kk off L.length esz := by
  unfold Slc at hs
  cases v <;> simp only [Sl] at hs <;> first
    | (exact hs.elim)
    | (obtain ⟨h1, _⟩ := hs; exact .inl ⟨rfl, List.eq_nil_of_length_eq_zero h1⟩)
    | (obtain ⟨h1, _⟩ := hs; exact .inr (.inl ⟨rfl, List.eq_nil_of_length_eq_zero h1⟩))
    | (obtain ⟨rfl, rfl, _⟩ := hs; exact .inr (.inr ⟨_, _, _, rfl⟩))
/-- append of one element. -/
theorem apL (hl : ∀ x, (enc x).length = esz) (hsc : ∀ x, (enc x).all AV.sc = true) {h0 h : AH} {v : AV} {L : List α} (ho : OwL esz enc h0 h v L) (hp : Pre h0 h) (x : α) (hr : L.length + 1 ≤ 1099511627776) :
    ∃ v' h', apRow h esz v 1 (enc x) = some (v', h') ∧ OwL esz enc h0 h' v' (L ++ [x]) ∧ Pre h0 h' := by
  obtain ⟨v', h', h1, h2, h3⟩ := ap_own ho hp (q := 1) (vs := enc x) (by rw [hl]; omega) (hsc x) hr
  refine ⟨v', h', h1, ?_, h3⟩
  unfold OwL
  rw [List.length_append, List.flatMap_append]
  simpa using h2
end
/-- Two heaps agree below n. -/
def Ag (n : Nat) (h h' : AH) : Prop := h.length ≤ h'.length ∧ ∀ i, i < n → h'[i]? = h[i]?
theorem Ag.refl (n : Nat) (h : AH) : Ag n h h := ⟨Nat.le_refl _, fun _ _ => rfl⟩
theorem Ag.trans {n : Nat} {a b c : AH} (x : Ag n a b) (y : Ag n b c) : Ag n a c := ⟨Nat.le_trans x.1 y.1, fun i hi => by rw [y.2 i hi, x.2 i hi]⟩
theorem Pre.ag {h h' : AH} (hp : Pre h h') {n : Nat} (hn : n ≤ h.length) : Ag n h h' := ⟨hp.1, fun i hi => hp.2 i (Nat.lt_of_lt_of_le hi hn)⟩
theorem Ag.pre {h h' : AH} {n : Nat} (ha : Ag n h h') (hn : h.length ≤ n) : Pre h h' := ⟨ha.1, fun i hi => ha.2 i (Nat.lt_of_lt_of_le hi hn)⟩
theorem Ag.mono {h h' : AH} {n m : Nat} (ha : Ag n h h') (hn : m ≤ n) : Ag m h h' := ⟨ha.1, fun i hi => ha.2 i (Nat.lt_of_lt_of_le hi hn)⟩
theorem Ag.set {h h' : AH} {n c : Nat} {o : AO} (ha : Ag n h h') (hc : n ≤ c) : Ag n h (h'.set c o) := ⟨by simpa using ha.1, fun i hi => by rw [List.getElem?_set, if_neg (by omega)]; exact ha.2 i hi⟩
theorem Pre.trans' {a b c : AH} (x : Pre a b) (y : Ag a.length b c) : Pre a c := ⟨Nat.le_trans x.1 y.1, fun i hi => by rw [y.2 i hi, x.2 i hi]⟩
/-- append to a slice of one's own: what lies below is as it was. -/
theorem ap_ag {esz : Nat} {b h : AH} {v : AV} {n : Nat} {cs : List AV} (ho : Own esz b h v n cs) (hb : b.length ≤ h.length) {q : Nat} {vs : List AV} (hq : q * esz = vs.length) (hsc : vs.all AV.sc = true) (hroom : n + q ≤ room) :
    ∃ v' h', apRow h esz v q vs = some (v', h') ∧ Own esz b h' v' (n + q) (cs ++ vs) ∧ Ag b.length h h' := by
  have ho' : Own esz (h.take b.length) h v n cs := by
    unfold Own at ho ⊢
    cases v <;> simp only at ho ⊢ <;> first
      | exact ho
      | (obtain ⟨h1, h2, h3, h4, h5⟩ := ho; exact ⟨h1, h2, h3, by simp; omega, h5⟩)
  have hp : Pre (h.take b.length) h := ⟨by simp; omega, fun i hi => by simp at hi; rw [List.getElem?_take, if_pos (by omega)]⟩
  obtain ⟨v', h', h1, h2, h3⟩ := ap_own ho' hp hq hsc hroom
  refine ⟨v', h', h1, ?_, ?_, ?_⟩
  · unfold Own at h2 ⊢
    cases v' <;> simp only at h2 ⊢ <;> first
      | exact h2
      | (obtain ⟨k1, k2, k3, k4, k5⟩ := h2; exact ⟨k1, k2, k3, by simp at k4; omega, k5⟩)
  · unfold apRow at h1
    cases v <;> simp only at h1 <;> first
      | (cases h1; done)
      | (split at h1
         · cases h1; exact Nat.le_refl _
         · split at h1
           · simp only [newRow, hsc, if_true, Option.map_some, Option.some.injEq, Prod.mk.injEq] at h1
             obtain ⟨_, rfl⟩ := h1; simp
           · cases h1)
      | (split at h1
         · split at h1
           · cases h1; simp
           · cases h1
         · cases h1)
  · intro i hi
    have := h3.2 i (by simp; omega)
    rw [this, List.getElem?_take, if_pos hi]
section
variable {α : Type} {esz : Nat} {enc : α → List AV}
theorem apA (hl : ∀ x, (enc x).length = esz) (hsc : ∀ x, (enc x).all AV.sc = true) {b h : AH} {v : AV} {L : List α} (ho : OwL esz enc b h v L) (hb : b.length ≤ h.length) (x : α) (hr : L.length + 1 ≤ 1099511627776) :
    ∃ v' h', apRow h esz v 1 (enc x) = some (v', h') ∧ OwL esz enc b h' v' (L ++ [x]) ∧ Ag b.length h h' := by
  obtain ⟨v', h', h1, h2, h3⟩ := ap_ag ho hb (q := 1) (vs := enc x) (by rw [hl]; omega) (hsc x) hr
  refine ⟨v', h', h1, ?_, h3⟩
  unfold OwL
  rw [List.length_append, List.flatMap_append]
  simpa using h2
end
/-- A store into a slice of one's own. -/
theorem OwL.store {α : Type} {esz : Nat} {enc : α → List AV} (hl : ∀ x, (enc x).length = esz) (hsc : ∀ x, (enc x).all AV.sc = true) {b h : AH} {v : AV} {pre : List α} {x : α} {rest : List α} (ho : OwL esz enc b h v (pre ++ x :: rest)) (y : α) :
    ∃ c kk off h', v = .slice c kk off (pre ++ x :: rest).length esz ∧ wrRow h c kk (off + pre.length * esz) (enc y) = some h' ∧ OwL esz enc b h' v (pre ++ y :: rest) ∧ b.length ≤ c ∧ h'.length = h.length ∧ ∀ i, i ≠ c → h'[i]? = h[i]? := by
  unfold OwL Own at ho
  cases v <;> simp only at ho <;> first
    | (exact ho.elim)
    | (have := ho.1; simp at this; done)
    | skip
  rename_i c kk off len e
  obtain ⟨rfl, rfl, h3, h4, cells, fl, h5, h6, h7, h8⟩ := ho
  have hlt := (List.getElem?_eq_some_iff.1 h5).1
  have hn : (pre ++ x :: rest).length * e = pre.length * e + e + rest.length * e := by
    simp only [List.length_append, List.length_cons, Nat.add_mul, Nat.one_mul]; try omega
  have hf : (pre ++ x :: rest).flatMap enc = pre.flatMap enc ++ (enc x ++ rest.flatMap enc) := by simp
  have hf2 : (pre ++ y :: rest).flatMap enc = pre.flatMap enc ++ (enc y ++ rest.flatMap enc) := by simp
  have hpl := flat_len hl pre
  refine ⟨c, kk, off, h.set c (.row (splice cells (off + pre.length * e) (enc y)) kk kk false), rfl, ?_, ?_, h4, by simp, fun i hi => by rw [List.getElem?_set, if_neg (Ne.symm hi)]⟩
  · unfold wrRow
    rw [h5]
    simp only
    rw [if_pos ⟨trivial, h6, by rw [hl]; omega, hsc y⟩]
  · unfold OwL Own
    simp only
    have hsl : (splice cells (off + pre.length * e) (enc y)).length = cells.length := by
      unfold splice
      simp only [List.length_append, List.length_take, List.length_drop, hl]
      omega
    refine ⟨trivial, by simp, by (rw [flat_len hl]; try simp), h4, _, kk, by rw [List.getElem?_set, if_pos rfl, if_pos hlt], Nat.le_refl _, by rw [hsl]; simp at h7 ⊢; omega, ?_⟩
    unfold splice
    rw [List.append_assoc, List.drop_append_of_le_length (by simp; omega), List.drop_take, h8, hf, hf2, hl]
    rw [show off + pre.length * e - off = pre.length * e by omega, List.take_left' hpl]
    congr 2
    have : cells.drop (off + pre.length * e + e) = (cells.drop off).drop (pre.length * e + e) := by rw [List.drop_drop]; congr 1; omega
    rw [this, h8, hf, ← List.drop_drop, List.drop_left' hpl, List.drop_left' (hl x)]
/-- An iterator moves on: slices stay. -/
theorem own_set {esz : Nat} {b h : AH} {v : AV} {n : Nat} {cs : List AV} (ho : Own esz b h v n cs) {c : Nat} {o : AO} (hc : c < b.length) : Own esz b (h.set c o) v n cs := by
  unfold Own at ho ⊢
  cases v <;> simp only at ho ⊢ <;> first
    | exact ho
    | (obtain ⟨h1, h2, h3, h4, cells, fl, h5, h6⟩ := ho
       exact ⟨h1, h2, h3, h4, cells, fl, by rw [List.getElem?_set, if_neg (by omega)]; exact h5, h6⟩)
theorem own_iter {esz : Nat} {b h : AH} {v : AV} {n : Nat} {cs : List AV} (ho : Own esz b h v n cs) {c : Nat} {o : AO} {s : List UInt8} {p : Nat} (hc : h[c]? = some (.iter s p)) : Own esz b (h.set c o) v n cs := by
  unfold Own at ho ⊢
  cases v <;> simp only at ho ⊢ <;> first
    | exact ho
    | (obtain ⟨h1, h2, h3, h4, cells, fl, h5, h6⟩ := ho
       refine ⟨h1, h2, h3, h4, cells, fl, ?_, h6⟩
       rw [List.getElem?_set, if_neg]
       · exact h5
       · rintro rfl
         rw [hc] at h5; cases h5)
theorem own_base {esz : Nat} {b b' h : AH} {v : AV} {n : Nat} {cs : List AV} (ho : Own esz b h v n cs) (hb : b'.length ≤ b.length) : Own esz b' h v n cs := by
  unfold Own at ho ⊢
  cases v <;> simp only at ho ⊢ <;> first
    | exact ho
    | (obtain ⟨h1, h2, h3, h4, h5⟩ := ho; exact ⟨h1, h2, h3, Nat.le_trans hb h4, h5⟩)
abbrev encS (s : List UInt8) : List AV := [.str s]
abbrev encI (n : Int) : List AV := [.int .i64 n]
abbrev encB (b : Bool) : List AV := [.bool b]
abbrev encM (m : Int × Int) : List AV := [.int .i64 m.1, .int .i64 m.2]
abbrev encC (c : Int × Int × Int) : List AV := [.int .i64 c.1, .int .i64 c.2.1, .int .i64 c.2.2]
theorem hlS (s : List UInt8) : (encS s).length = 1 := rfl
theorem hlI (s : Int) : (encI s).length = 1 := rfl
theorem hlB (s : Bool) : (encB s).length = 1 := rfl
theorem hlM (s : Int × Int) : (encM s).length = 2 := rfl
theorem hlC (s : Int × Int × Int) : (encC s).length = 3 := rfl
theorem scS (s : List UInt8) : (encS s).all AV.sc = true := rfl
theorem scI (s : Int) : (encI s).all AV.sc = true := rfl
theorem scB (s : Bool) : (encB s).all AV.sc = true := rfl
theorem scM (s : Int × Int) : (encM s).all AV.sc = true := rfl
theorem scC (s : Int × Int × Int) : (encC s).all AV.sc = true := rfl
/-- All old rows but one are as they were. -/
def PreX (c : Nat) (h h' : AH) : Prop := h.length ≤ h'.length ∧ ∀ i, i < h.length → i ≠ c → h'[i]? = h[i]?
theorem Pre.x {h h' : AH} (hp : Pre h h') (c : Nat) : PreX c h h' := ⟨hp.1, fun i hi _ => hp.2 i hi⟩
theorem PreX.trans {c : Nat} {h1 h2 h3 : AH} (x : PreX c h1 h2) (y : PreX c h2 h3) : PreX c h1 h3 := ⟨Nat.le_trans x.1 y.1, fun i hi hc => by rw [y.2 i (Nat.lt_of_lt_of_le hi x.1) hc, x.2 i hi hc]⟩
theorem PreX.refl (c : Nat) (h : AH) : PreX c h h := ⟨Nat.le_refl _, fun _ _ _ => rfl⟩
theorem PreX.pre {c : Nat} {h1 h2 : AH} (x : PreX c h1 h2) (hc : h1.length ≤ c) : Pre h1 h2 := ⟨x.1, fun i hi => x.2 i hi (by omega)⟩
theorem PreX.pre2 {c : Nat} {h h2 : AH} {o o' : AO} (x : PreX c (h ++ [o]) h2) (hc : h.length + 1 ≤ c) : Pre h (h2.set h.length o') := by
  have h1 := x.1
  simp at h1
  exact ⟨by simp; omega, fun i hi => by rw [List.getElem?_set, if_neg (by omega), x.2 i (by simp; omega) (by omega), List.getElem?_append_left hi]⟩
theorem PreX.set {c : Nat} {h0 h : AH} {o : AO} (x : PreX c h0 h) : PreX c h0 (h.set c o) := ⟨by simpa using x.1, fun i hi hc => by rw [List.getElem?_set, if_neg (by omega)]; exact x.2 i hi hc⟩
theorem rd_lt {h : AH} {c k off n : Nat} {cs : List AV} (hr : rdRow h c k off n = some cs) : c < h.length := by
  unfold rdRow at hr; split at hr
  · rename_i hh; exact (List.getElem?_eq_some_iff.1 hh).1
  · cases hr
theorem rdRow_prex {h h' : AH} {x : Nat} (hp : PreX x h h') {c k off n : Nat} {cs : List AV} (hc : c ≠ x) (hr : rdRow h c k off n = some cs) : rdRow h' c k off n = some cs := by
  have hlt : c < h.length := by
    unfold rdRow at hr; split at hr
    · rename_i hh; exact (List.getElem?_eq_some_iff.1 hh).1
    · cases hr
  unfold rdRow at hr ⊢
  rw [hp.2 c hlt hc]; exact hr
theorem OwL.slc_prex {α : Type} {esz : Nat} {enc : α → List AV} {h0 h h' : AH} {v : AV} {L : List α} {c : Nat} (ho : OwL esz enc h0 h v L) (hp : PreX c h h') (hc : c < h0.length) : Slc esz enc h' v L := by
  have hs := ho.slc
  unfold OwL Own at ho
  unfold Slc Sl at hs ⊢
  cases v <;> simp only at ho hs ⊢ <;> first
    | exact hs
    | (obtain ⟨h1, h2, h3, h4⟩ := hs
       exact ⟨h1, h2, h3, rdRow_prex hp (by have := ho.2.2.2.1; omega) h4⟩)
end Go.Proofs.YtmlmfjjfciiblaaGreatDoor.Ab

/- ARGUMENTS: slices of structs of three integers; a struct of an integer and such a slice. -/
namespace Go.Proofs.YtmlmfjjfciiblaaGreatDoor.Ab
open Go Go.RowKit Go.ChangeShapes Go.WideShapes Go.Deep Go.Joins
set_option maxRecDepth 100000

section
variable {H : Type} {enc : TypeId × Value → H} {P : Program}
theorem cell_atA {W : World} {blk off : Nat} {C : Array Value} {ee : TypeId} {fr : Nat × Nat} (h : W.heap[blk]? = some (.cells C ee fr)) (i : Nat) : W.cell? (Addr.add ⟨blk, off, none⟩ i) = C[off + i]? := by
  unfold Addr.add
  split
  · rename_i h0; simp [World.cell?, h, h0]
  · simp [World.cell?, h]
theorem open_int1 {W : World} {b0 fuel : Nat} {sp : Nat → Bool} {hd : Bool} {t : TypeId} (ht : P.underlying t = some (.int .i64)) {c : Value} {y : DataW H × List MemPlace} (h : DataW.trod enc P W b0 sp hd fuel t [c] = some y) : ∃ n, c = .int .i64 n := by
  obtain ⟨n', h1, _⟩ := DataW.trod_int ht h
  simp at h1
  exact ⟨n', h1⟩
theorem open_clue {W : World} {b0 fuel : Nat} {sp : Nat → Bool} {hd : Bool} {e : TypeId} {f0 f1 f2 : Field} (he : P.underlying e = some (.struct #[f0, f1, f2])) (hone : oneCellFields P #[f0, f1, f2] = true)
    (h0 : P.underlying f0.type = some (.int .i64)) (h1 : P.underlying f1.type = some (.int .i64)) (h2 : P.underlying f2.type = some (.int .i64)) {cs : List Value} (hl : cs.length = 3) {x : DataW H × List MemPlace} (h : DataW.trod enc P W b0 sp hd fuel e cs = some x) :
    ∃ c : Int × Int × Int, cs = [.int .i64 c.1, .int .i64 c.2.1, .int .i64 c.2.2] := by
  match cs, hl with
  | [c0, c1, c2], _ =>
    obtain ⟨y0, y1, y2, n, _, _, g0, g1, g2⟩ := trod_struct3 he h
    obtain ⟨o0, k0⟩ := hone_of hone 0 f0 rfl
    obtain ⟨o1, k1⟩ := hone_of hone 1 f1 rfl
    obtain ⟨o2, k2⟩ := hone_of hone 2 f2 rfl
    rw [o0, k0] at g0
    rw [o1, k1] at g1
    rw [o2, k2] at g2
    obtain ⟨n0, rfl⟩ := open_int1 h0 (c := c0) g0
    obtain ⟨n1, rfl⟩ := open_int1 h1 (c := c1) g1
    obtain ⟨n2, rfl⟩ := open_int1 h2 (c := c2) g2
    exact ⟨(n0, n1, n2), rfl⟩
/-- A slice of structs of three integers. -/
theorem open_clues {F : Nat → Nat} {W : World} {fuel : Nat} {t e : TypeId} {f0 f1 f2 : Field} (ht : P.underlying t = some (.slice e)) (he : P.underlying e = some (.struct #[f0, f1, f2])) (hone : oneCellFields P #[f0, f1, f2] = true) (hC : P.cellsOf e = 3)
    (h0 : P.underlying f0.type = some (.int .i64)) (h1 : P.underlying f1.type = some (.int .i64)) (h2 : P.underlying f2.type = some (.int .i64)) {v : Value} {x : DataW H × List MemPlace} (h : DataW.trod enc P W 0 (fun _ => true) true fuel t [v] = some x) :
    ∃ (cs : List (Int × Int × Int)) (m : Emb) (g : AH) (a : AV), Slc 3 encC g a cs ∧ RelV F m a v ∧ RelH F W.heap.size m g W ∧ cs.length < 2 ^ 63 := by
  rcases open_slice ht h with ⟨hv, _⟩ | ⟨a, len, cap, m, n, D, Pl, hv, hb, hl, hmax, hm, hx, hi⟩
  · simp at hv
    subst hv
    exact ⟨[], _, [], .nilS, Slc.nil, by simp only [RelV], rel_nothing F W, by simp⟩
  · simp at hv
    subst hv
    simp only [if_true] at hm
    subst hm
    rw [hC] at hi
    have hcell : ∀ i, i < m → ∃ c : Int × Int × Int, W.cell? (a.add (i * 3)) = some (.int .i64 c.1) ∧ W.cell? ((a.add (i * 3)).add 1) = some (.int .i64 c.2.1) ∧ W.cell? ((a.add (i * 3)).add 2) = some (.int .i64 c.2.2) := by
      intro i him
      obtain ⟨cs', hc, ht'⟩ := hi i him
      obtain ⟨_, hcl, hat⟩ := World.cells?_some hc
      obtain ⟨c, rfl⟩ := open_clue he hone h0 h1 h2 hcl ht'
      refine ⟨c, ?_, ?_, ?_⟩
      · simpa [Addr.add] using hat 0 (by omega)
      · simpa [Addr.add] using hat 1 (by omega)
      · simpa [Addr.add] using hat 2 (by omega)
    by_cases hz : m = 0
    · subst hz
      obtain rfl : len = 0 := by omega
      exact ⟨[], _, [], .empS, Slc.emp, by simp only [RelV]; exact ⟨a, rfl⟩, rel_nothing F W, by simp⟩
    · obtain ⟨c0, q0, _⟩ := hcell 0 (by omega)
      have hspot : a.spot = none := by
        unfold World.cell? at q0
        split at q0
        · split at q0
          · cases q0
          · rename_i hs; simpa [Addr.add] using hs
        · cases q0
      obtain ⟨blk, off, spot⟩ := a
      simp only at hspot
      subst hspot
      obtain ⟨C, ee, fr, hblk⟩ : ∃ C ee fr, W.heap[blk]? = some (.cells C ee fr) := by
        unfold World.cell? at q0
        split at q0
        · rename_i C ee fr hh; exact ⟨C, ee, fr, hh⟩
        · cases q0
      have hC' : ∀ i, i < m → ∃ c : Int × Int × Int, C[off + i * 3]? = some (.int .i64 c.1) ∧ C[off + i * 3 + 1]? = some (.int .i64 c.2.1) ∧ C[off + i * 3 + 2]? = some (.int .i64 c.2.2) := by
        intro i him
        obtain ⟨c, e1, e2, e3⟩ := hcell i him
        rw [Go.Deep.add_add] at e2 e3
        rw [cell_atA hblk] at e1 e2 e3
        exact ⟨c, e1, e2, e3⟩
      have hsize : off + m * 3 ≤ C.size := by
        obtain ⟨c, _, _, e3⟩ := hC' (m - 1) (by omega)
        have := (Array.getElem?_eq_some_iff.1 e3).1
        omega
      -- the elements
      have hel : ∀ l, l ≤ m → ∃ cs : List (Int × Int × Int), cs.length = l ∧ ∀ j x, (cs.flatMap encC)[j]? = some x → ∃ v, C[off + j]? = some v ∧ ∀ F m', RelV F m' x v := by
        intro l
        induction l with
        | zero => intro _; exact ⟨[], rfl, fun j x hx => by simp at hx⟩
        | succ l ih =>
          intro hlm
          obtain ⟨cs, hcs, hh⟩ := ih (by omega)
          obtain ⟨c, e1, e2, e3⟩ := hC' l (by omega)
          refine ⟨cs ++ [c], by simp [hcs], ?_⟩
          intro j x hx
          have hfl : (cs.flatMap encC).length = l * 3 := by rw [flat_len hlC, hcs]
          rw [List.flatMap_append] at hx
          by_cases hj : j < l * 3
          · rw [List.getElem?_append_left (by omega)] at hx
            exact hh j x hx
          · rw [List.getElem?_append_right (by omega), hfl] at hx
            simp only [List.flatMap_cons, List.flatMap_nil, List.append_nil, encC] at hx
            have hj3 : j - l * 3 = 0 ∨ j - l * 3 = 1 ∨ j - l * 3 = 2 := by
              have := (List.getElem?_eq_some_iff.1 hx).1
              simp at this
              omega
            rcases hj3 with e | e | e <;> rw [e] at hx <;> simp at hx <;> subst hx
            · exact ⟨_, (by rw [show off + j = off + l * 3 by omega]; exact e1), fun F m' => by simp only [RelV]⟩
            · exact ⟨_, (by rw [show off + j = off + l * 3 + 1 by omega]; exact e2), fun F m' => by simp only [RelV]⟩
            · exact ⟨_, (by rw [show off + j = off + l * 3 + 2 by omega]; exact e3), fun F m' => by simp only [RelV]⟩
      obtain ⟨cs, hcs, hh⟩ := hel len hl
      have hfl : (cs.flatMap encC).length = len * 3 := by rw [flat_len hlC, hcs]
      have hmx : maxLen < 2 ^ 63 := by decide
      refine ⟨cs, emb1 ⟨blk, off, 0, len * 3, C.size⟩, [.row (cs.flatMap encC) 0 0 true], .slice 0 0 0 len 3, ?_, ?_, ?_, by omega⟩
      · unfold Slc Sl
        refine ⟨rfl, hcs.symm, by rw [hfl, hcs], ?_⟩
        unfold rdRow
        simp only [List.getElem?_cons_zero]
        rw [if_pos (by rw [hfl, hcs]; omega), List.drop_zero, List.take_of_length_le (by rw [hfl, hcs]; exact Nat.le_refl _)]
      · simp only [RelV]
        exact ⟨⟨blk, off, 0, len * 3, C.size⟩, off, m, by simp [emb1], rfl, hl, .inr ⟨Nat.le_refl _, by simp, by simp, by simpa using hsize⟩⟩
      · refine rel_row (C := C) hblk rfl rfl hfl.symm (by simp only; omega) ?_
        intro j x hx
        obtain ⟨v, h3, h4⟩ := hh j x hx
        exact ⟨v, h3, h4 _ _⟩
/-- A struct of an integer and a slice of structs of three integers. -/
theorem open_puzzle {F : Nat → Nat} {W : World} {base : Nat} {t e : TypeId} {g0 g1 f0 f1 f2 : Field} (hp : P.underlying t = some (.struct #[g0, g1])) (honeP : oneCellFields P #[g0, g1] = true) (hCP : P.cellsOf t = 2) (hg0 : P.underlying g0.type = some (.int .i64)) (ht : P.underlying g1.type = some (.slice e))
    (he : P.underlying e = some (.struct #[f0, f1, f2])) (hone : oneCellFields P #[f0, f1, f2] = true) (hC : P.cellsOf e = 3)
    (h0 : P.underlying f0.type = some (.int .i64)) (h1 : P.underlying f1.type = some (.int .i64)) (h2 : P.underlying f2.type = some (.int .i64)) {v : Value} {d : DataW H} {p : List MemPlace} (hval : Value.okWide P W .any base t v) (h : DataW.Trod enc P W 0 (fun _ => true) true t v d p) :
    ∃ (n : Int) (cs : List (Int × Int × Int)) (m : Emb) (g : AH) (a : AV), Slc 3 encC g a cs ∧ RelV F m (.agg [.int .i64 n, a]) v ∧ RelH F W.heap.size m g W ∧ cs.length < 2 ^ 63 := by
  obtain ⟨v0, v1, y0, y1, n, rfl, _, _, q0, q1⟩ := open_agg2 hp honeP hCP hval h
  obtain ⟨n0, rfl⟩ := open_int1 hg0 q0
  obtain ⟨cs, m, g, a, k1, k2, k3, k4⟩ := open_clues (F := F) ht he hone hC h0 h1 h2 q1
  refine ⟨n0, cs, m, g, a, k1, ?_, k3, k4⟩
  simp only [RelV, RelL]
  exact ⟨_, rfl, _, _, rfl, rfl, _, _, rfl, k2, rfl⟩
theorem open_str {W : World} {base : Nat} {t : TypeId} (ht : P.underlying t = some .string) {v : Value} {d : DataW H} {p : List MemPlace} (hval : Value.okWide P W .any base t v) (h : DataW.Trod enc P W 0 (fun _ => true) true t v d p) : ∃ s : List UInt8, v = .string ⟨s.toArray⟩ ∧ s.length < 2 ^ 63 := by
  obtain ⟨s, rfl⟩ := okWide_string ht hval
  obtain ⟨fuel, h⟩ := h
  obtain ⟨s', h1, _, h3⟩ := DataW.trod_string ht h
  simp only [Value.cells, List.cons.injEq, and_true, Value.string.injEq] at h1
  subst h1
  refine ⟨s.data.toList, rfl, ?_⟩
  have : s.size = s.data.toList.length := rfl
  unfold maxLen at h3
  omega
end
end Go.Proofs.YtmlmfjjfciiblaaGreatDoor.Ab

/- slices.IndexFunc, ContainsFunc and DeleteFunc, by what the function handed on answers. -/
namespace Go.Proofs.YtmlmfjjfciiblaaGreatDoor.Ab
open Go
set_option maxRecDepth 100000
set_option maxHeartbeats 4000000

def idxOf {α : Type} (P : α → Bool) (L : List α) : Int := match L.findIdx? P with
  | some i => i
  | none => -1
theorem idxOf_ge {α : Type} (P : α → Bool) (L : List α) : (idxOf P L ≥ 0) = (L.any P = true) := by
  unfold idxOf
  cases h : L.findIdx? P with
  | none => rw [List.findIdx?_eq_none_iff] at h; simp; exact fun x hx => by simpa using h x hx
  | some i =>
    rw [List.findIdx?_eq_some_iff_getElem] at h
    obtain ⟨hi, hp, _⟩ := h
    simp only [ge_iff_le, Int.natCast_nonneg, eq_iff_iff, true_iff, List.any_eq_true]
    exact ⟨_, List.getElem_mem hi, hp⟩
theorem lp_IndexFuncM (f : Nat) (cap : List AV) (P : (Int × Int) → Bool) (I : AH → Prop) {v : AV} {L : List (Int × Int)} (hL : L.length < 2 ^ 40) (hS : ∀ h, I h → Slc 2 encM h v L)
    (hI : ∀ x ∈ L, ∀ h, I h → ∀ post : AV → AH → Prop, (∀ h', I h' → post (.bool (P x)) h') → S f ([.agg (encM x)] ++ cap) h post k) {R : X → Env → AH → Prop} : ∀ (rest pre : List (Int × Int)) (h : AH), L = pre ++ rest → I h →
    (∀ h', I h' → ∀ i, rest.findIdx? P = some i → R .ret [(4, .int .i64 ((pre.length + i : Nat) : Int))] h') → (∀ h', I h' → rest.findIdx? P = none → R (.exit 0) [] h') →
    Cx (.loop lp205_0) [(0, v), (1, .fn f cap), (7, .int .i64 L.length), (8, .int .i64 pre.length)] h R k k
  | [], pre, h, hpre, h0, h1, h2 => by
    subst hpre
    rw [w_loopb (c := lp205_0) (d := lb205_0) rfl]; unfold lb205_0
    simp only [List.append_nil]
    simp (maxSteps := 1000000) (disch := first | omega | rfl | (simp only [zL, two63, room] <;> omega) | fail) only [↓reduceIte, ↓zP, zW, WOp, evOp, evBin, binI, binSh, binS, evNil, keyIs, keyEq, mkv, AV.cells, AV.sc, optv, bnd, env, put, Env.get, Env.set, Env.del, Env.dels, Env.init, res1, resL, resV, fillP, splice, newRow, Nat.reduceEqDiff, Nat.reduceLT, Nat.reduceLeDiff, Nat.reduceAdd, Nat.reduceMul, Nat.reduceSub, Nat.reduceBEq, reduceCtorEq, ↓zR, zQ, Tr, StA, StT]
    exact h2 h h0 rfl
  | x :: rest, pre, h, hpre, h0, h1, h2 => by
    have ih := lp_IndexFuncM f cap P I hL hS hI (R := R) rest (pre ++ [x])
    subst hpre
    obtain ⟨c, kk, off, rfl, hr⟩ := (hS h h0).at hlM
    have hlen : (pre ++ x :: rest).length = pre.length + 1 + rest.length := by simp; omega
    rw [hlen] at ih hL ⊢
    rw [w_loopb (c := lp205_0) (d := lb205_0) rfl]; unfold lb205_0
    have hlt : (pre.length : Int) < ((pre.length + 1 + rest.length : Nat) : Int) := by omega
    simp (maxSteps := 1000000) (disch := first | omega | rfl | (simp only [zL, two63, room] <;> omega) | fail) only [↓reduceIte, ↓zP, zW, WOp, evOp, evBin, binI, binSh, binS, evNil, keyIs, keyEq, mkv, AV.cells, AV.sc, optv, bnd, env, put, Env.get, Env.set, Env.del, Env.dels, Env.init, res1, resL, resV, fillP, splice, newRow, Nat.reduceEqDiff, Nat.reduceLT, Nat.reduceLeDiff, Nat.reduceAdd, Nat.reduceMul, Nat.reduceSub, Nat.reduceBEq, reduceCtorEq, ↓zR, zQ, Tr, StA, StT, hlt, hr, List.length_append]
    refine hI x (by simp) h h0 _ ?_
    intro h' h0'
    cases e : P x
    · have hw : (pre.length : Int) + 1 = ((pre ++ [x]).length : Int) := by simp
      simp (maxSteps := 1000000) (disch := first | omega | rfl | (simp only [zL, two63, room] <;> omega) | fail) only [↓reduceIte, ↓zP, zW, WOp, evOp, evBin, binI, binSh, binS, evNil, keyIs, keyEq, mkv, AV.cells, AV.sc, optv, bnd, env, put, Env.get, Env.set, Env.del, Env.dels, Env.init, res1, resL, resV, fillP, splice, newRow, Nat.reduceEqDiff, Nat.reduceLT, Nat.reduceLeDiff, Nat.reduceAdd, Nat.reduceMul, Nat.reduceSub, Nat.reduceBEq, reduceCtorEq, ↓zR, zQ, Tr, StA, StT, hw]
      rw [w_loopn (c := lp205_0) rfl]
      simp (maxSteps := 1000000) (disch := first | omega | rfl | (simp only [zL, two63, room] <;> omega) | fail) only [↓reduceIte, ↓zP, zW, WOp, evOp, evBin, binI, binSh, binS, evNil, keyIs, keyEq, mkv, AV.cells, AV.sc, optv, bnd, env, put, Env.get, Env.set, Env.del, Env.dels, Env.init, res1, resL, resV, fillP, splice, newRow, Nat.reduceEqDiff, Nat.reduceLT, Nat.reduceLeDiff, Nat.reduceAdd, Nat.reduceMul, Nat.reduceSub, Nat.reduceBEq, reduceCtorEq, ↓zR, zQ, Tr, StA, StT]
      refine ih h' (by simp) h0' ?_ ?_
      · intro h2' h02 i hi
        have := h1 h2' h02 (i + 1) (by rw [List.findIdx?_cons, e]; simp [hi])
        simpa [Nat.add_assoc, Nat.add_comm 1 i] using this
      · intro h2' h02 hi
        exact h2 h2' h02 (by rw [List.findIdx?_cons, e]; simp [hi])
    · simp (maxSteps := 1000000) (disch := first | omega | rfl | (simp only [zL, two63, room] <;> omega) | fail) only [↓reduceIte, ↓zP, zW, WOp, evOp, evBin, binI, binSh, binS, evNil, keyIs, keyEq, mkv, AV.cells, AV.sc, optv, bnd, env, put, Env.get, Env.set, Env.del, Env.dels, Env.init, res1, resL, resV, fillP, splice, newRow, Nat.reduceEqDiff, Nat.reduceLT, Nat.reduceLeDiff, Nat.reduceAdd, Nat.reduceMul, Nat.reduceSub, Nat.reduceBEq, reduceCtorEq, ↓zR, zQ, Tr, StA, StT]
      simpa using h1 h' h0' 0 (by rw [List.findIdx?_cons, e]; simp)
theorem c_IndexFuncM (f : Nat) (cap : List AV) (P : (Int × Int) → Bool) (I : AH → Prop) {v : AV} {L : List (Int × Int)} (hL : L.length < 2 ^ 40) (hS : ∀ h, I h → Slc 2 encM h v L)
    (hI : ∀ x ∈ L, ∀ h, I h → ∀ post : AV → AH → Prop, (∀ h', I h' → post (.bool (P x)) h') → S f ([.agg (encM x)] ++ cap) h post k) {h : AH} (h0 : I h) {post : AV → AH → Prop}
    (hp : ∀ h', I h' → post (.int .i64 (idxOf P L)) h') : S 205 [v, .fn f cap] h post k := by
  refine S_of rfl T205 ?_; unfold fi205
  have hv := fun g => Slc.lenV ((hS h h0)) (g := g) (ρ := fun _ => _) (x := .t 0) rfl; simp only [evOp] at hv
  simp (maxSteps := 1000000) (disch := first | omega | rfl | (simp only [zL, two63, room] <;> omega) | fail) only [↓reduceIte, ↓zP, zW, WOp, evOp, evBin, binI, binSh, binS, evNil, keyIs, keyEq, mkv, AV.cells, AV.sc, optv, bnd, env, put, Env.get, Env.set, Env.del, Env.dels, Env.init, res1, resL, resV, fillP, splice, newRow, Nat.reduceEqDiff, Nat.reduceLT, Nat.reduceLeDiff, Nat.reduceAdd, Nat.reduceMul, Nat.reduceSub, Nat.reduceBEq, reduceCtorEq, ↓zR, zQ, Tr, StA, StT, hv]
  refine lp_IndexFuncM f cap P I hL hS hI L [] h rfl h0 ?_ ?_
  · intro h' h0' i hi
    simp (maxSteps := 1000000) (disch := first | omega | rfl | (simp only [zL, two63, room] <;> omega) | fail) only [↓reduceIte, ↓zP, zW, WOp, evOp, evBin, binI, binSh, binS, evNil, keyIs, keyEq, mkv, AV.cells, AV.sc, optv, bnd, env, put, Env.get, Env.set, Env.del, Env.dels, Env.init, res1, resL, resV, fillP, splice, newRow, Nat.reduceEqDiff, Nat.reduceLT, Nat.reduceLeDiff, Nat.reduceAdd, Nat.reduceMul, Nat.reduceSub, Nat.reduceBEq, reduceCtorEq, ↓zR, zQ, Tr, StA, StT]
    have := hp h' h0'
    unfold idxOf at this
    rw [hi] at this
    simpa using this
  · intro h' h0' hi
    simp (maxSteps := 1000000) (disch := first | omega | rfl | (simp only [zL, two63, room] <;> omega) | fail) only [↓reduceIte, ↓zP, zW, WOp, evOp, evBin, binI, binSh, binS, evNil, keyIs, keyEq, mkv, AV.cells, AV.sc, optv, bnd, env, put, Env.get, Env.set, Env.del, Env.dels, Env.init, res1, resL, resV, fillP, splice, newRow, Nat.reduceEqDiff, Nat.reduceLT, Nat.reduceLeDiff, Nat.reduceAdd, Nat.reduceMul, Nat.reduceSub, Nat.reduceBEq, reduceCtorEq, ↓zR, zQ, Tr, StA, StT]
    have := hp h' h0'
    unfold idxOf at this
    rw [hi] at this
    exact this
theorem c_ContainsFuncM (f : Nat) (cap : List AV) (P : (Int × Int) → Bool) (I : AH → Prop) {v : AV} {L : List (Int × Int)} (hL : L.length < 2 ^ 40) (hS : ∀ h, I h → Slc 2 encM h v L)
    (hI : ∀ x ∈ L, ∀ h, I h → ∀ post : AV → AH → Prop, (∀ h', I h' → post (.bool (P x)) h') → S f ([.agg (encM x)] ++ cap) h post k) {h : AH} (h0 : I h) {post : AV → AH → Prop}
    (hp : ∀ h', I h' → post (.bool (L.any P)) h') : S 202 [v, .fn f cap] h post k := by
  refine S_of rfl T202 ?_; unfold fi202
  simp (maxSteps := 1000000) (disch := first | omega | rfl | (simp only [zL, two63, room] <;> omega) | fail) only [↓reduceIte, ↓zP, zW, WOp, evOp, evBin, binI, binSh, binS, evNil, keyIs, keyEq, mkv, AV.cells, AV.sc, optv, bnd, env, put, Env.get, Env.set, Env.del, Env.dels, Env.init, res1, resL, resV, fillP, splice, newRow, Nat.reduceEqDiff, Nat.reduceLT, Nat.reduceLeDiff, Nat.reduceAdd, Nat.reduceMul, Nat.reduceSub, Nat.reduceBEq, reduceCtorEq, ↓zR, zQ, Tr, StA, StT]
  refine c_IndexFuncM f cap P I hL hS hI h0 ?_
  intro h' h0'
  simp (maxSteps := 1000000) (disch := first | omega | rfl | (simp only [zL, two63, room] <;> omega) | fail) only [↓reduceIte, ↓zP, zW, WOp, evOp, evBin, binI, binSh, binS, evNil, keyIs, keyEq, mkv, AV.cells, AV.sc, optv, bnd, env, put, Env.get, Env.set, Env.del, Env.dels, Env.init, res1, resL, resV, fillP, splice, newRow, Nat.reduceEqDiff, Nat.reduceLT, Nat.reduceLeDiff, Nat.reduceAdd, Nat.reduceMul, Nat.reduceSub, Nat.reduceBEq, reduceCtorEq, ↓zR, zQ, Tr, StA, StT, idxOf_ge]
  have := hp h' h0'
  cases e : L.any P <;> simp only [e] at this ⊢ <;> exact this
theorem lp_IndexFuncC (f : Nat) (cap : List AV) (P : (Int × Int × Int) → Bool) (I : AH → Prop) {v : AV} {L : List (Int × Int × Int)} (hL : L.length < 2 ^ 40) (hS : ∀ h, I h → Slc 3 encC h v L)
    (hI : ∀ x ∈ L, ∀ h, I h → ∀ post : AV → AH → Prop, (∀ h', I h' → post (.bool (P x)) h') → S f ([.agg (encC x)] ++ cap) h post k) {R : X → Env → AH → Prop} : ∀ (rest pre : List (Int × Int × Int)) (h : AH), L = pre ++ rest → I h →
    (∀ h', I h' → ∀ i, rest.findIdx? P = some i → R .ret [(4, .int .i64 ((pre.length + i : Nat) : Int))] h') → (∀ h', I h' → rest.findIdx? P = none → R (.exit 0) [] h') →
    Cx (.loop lp182_0) [(0, v), (1, .fn f cap), (7, .int .i64 L.length), (8, .int .i64 pre.length)] h R k k
  | [], pre, h, hpre, h0, h1, h2 => by
    subst hpre
    rw [w_loopb (c := lp182_0) (d := lb182_0) rfl]; unfold lb182_0
    simp only [List.append_nil]
    simp (maxSteps := 1000000) (disch := first | omega | rfl | (simp only [zL, two63, room] <;> omega) | fail) only [↓reduceIte, ↓zP, zW, WOp, evOp, evBin, binI, binSh, binS, evNil, keyIs, keyEq, mkv, AV.cells, AV.sc, optv, bnd, env, put, Env.get, Env.set, Env.del, Env.dels, Env.init, res1, resL, resV, fillP, splice, newRow, Nat.reduceEqDiff, Nat.reduceLT, Nat.reduceLeDiff, Nat.reduceAdd, Nat.reduceMul, Nat.reduceSub, Nat.reduceBEq, reduceCtorEq, ↓zR, zQ, Tr, StA, StT]
    exact h2 h h0 rfl
  | x :: rest, pre, h, hpre, h0, h1, h2 => by
    have ih := lp_IndexFuncC f cap P I hL hS hI (R := R) rest (pre ++ [x])
    subst hpre
    obtain ⟨c, kk, off, rfl, hr⟩ := (hS h h0).at hlC
    have hlen : (pre ++ x :: rest).length = pre.length + 1 + rest.length := by simp; omega
    rw [hlen] at ih hL ⊢
    rw [w_loopb (c := lp182_0) (d := lb182_0) rfl]; unfold lb182_0
    have hlt : (pre.length : Int) < ((pre.length + 1 + rest.length : Nat) : Int) := by omega
    simp (maxSteps := 1000000) (disch := first | omega | rfl | (simp only [zL, two63, room] <;> omega) | fail) only [↓reduceIte, ↓zP, zW, WOp, evOp, evBin, binI, binSh, binS, evNil, keyIs, keyEq, mkv, AV.cells, AV.sc, optv, bnd, env, put, Env.get, Env.set, Env.del, Env.dels, Env.init, res1, resL, resV, fillP, splice, newRow, Nat.reduceEqDiff, Nat.reduceLT, Nat.reduceLeDiff, Nat.reduceAdd, Nat.reduceMul, Nat.reduceSub, Nat.reduceBEq, reduceCtorEq, ↓zR, zQ, Tr, StA, StT, hlt, hr, List.length_append]
    refine hI x (by simp) h h0 _ ?_
    intro h' h0'
    cases e : P x
    · have hw : (pre.length : Int) + 1 = ((pre ++ [x]).length : Int) := by simp
      simp (maxSteps := 1000000) (disch := first | omega | rfl | (simp only [zL, two63, room] <;> omega) | fail) only [↓reduceIte, ↓zP, zW, WOp, evOp, evBin, binI, binSh, binS, evNil, keyIs, keyEq, mkv, AV.cells, AV.sc, optv, bnd, env, put, Env.get, Env.set, Env.del, Env.dels, Env.init, res1, resL, resV, fillP, splice, newRow, Nat.reduceEqDiff, Nat.reduceLT, Nat.reduceLeDiff, Nat.reduceAdd, Nat.reduceMul, Nat.reduceSub, Nat.reduceBEq, reduceCtorEq, ↓zR, zQ, Tr, StA, StT, hw]
      rw [w_loopn (c := lp182_0) rfl]
      simp (maxSteps := 1000000) (disch := first | omega | rfl | (simp only [zL, two63, room] <;> omega) | fail) only [↓reduceIte, ↓zP, zW, WOp, evOp, evBin, binI, binSh, binS, evNil, keyIs, keyEq, mkv, AV.cells, AV.sc, optv, bnd, env, put, Env.get, Env.set, Env.del, Env.dels, Env.init, res1, resL, resV, fillP, splice, newRow, Nat.reduceEqDiff, Nat.reduceLT, Nat.reduceLeDiff, Nat.reduceAdd, Nat.reduceMul, Nat.reduceSub, Nat.reduceBEq, reduceCtorEq, ↓zR, zQ, Tr, StA, StT]
      refine ih h' (by simp) h0' ?_ ?_
      · intro h2' h02 i hi
        have := h1 h2' h02 (i + 1) (by rw [List.findIdx?_cons, e]; simp [hi])
        simpa [Nat.add_assoc, Nat.add_comm 1 i] using this
      · intro h2' h02 hi
        exact h2 h2' h02 (by rw [List.findIdx?_cons, e]; simp [hi])
    · simp (maxSteps := 1000000) (disch := first | omega | rfl | (simp only [zL, two63, room] <;> omega) | fail) only [↓reduceIte, ↓zP, zW, WOp, evOp, evBin, binI, binSh, binS, evNil, keyIs, keyEq, mkv, AV.cells, AV.sc, optv, bnd, env, put, Env.get, Env.set, Env.del, Env.dels, Env.init, res1, resL, resV, fillP, splice, newRow, Nat.reduceEqDiff, Nat.reduceLT, Nat.reduceLeDiff, Nat.reduceAdd, Nat.reduceMul, Nat.reduceSub, Nat.reduceBEq, reduceCtorEq, ↓zR, zQ, Tr, StA, StT]
      simpa using h1 h' h0' 0 (by rw [List.findIdx?_cons, e]; simp)
theorem c_IndexFuncC (f : Nat) (cap : List AV) (P : (Int × Int × Int) → Bool) (I : AH → Prop) {v : AV} {L : List (Int × Int × Int)} (hL : L.length < 2 ^ 40) (hS : ∀ h, I h → Slc 3 encC h v L)
    (hI : ∀ x ∈ L, ∀ h, I h → ∀ post : AV → AH → Prop, (∀ h', I h' → post (.bool (P x)) h') → S f ([.agg (encC x)] ++ cap) h post k) {h : AH} (h0 : I h) {post : AV → AH → Prop}
    (hp : ∀ h', I h' → post (.int .i64 (idxOf P L)) h') : S 182 [v, .fn f cap] h post k := by
  refine S_of rfl T182 ?_; unfold fi182
  have hv := fun g => Slc.lenV ((hS h h0)) (g := g) (ρ := fun _ => _) (x := .t 0) rfl; simp only [evOp] at hv
  simp (maxSteps := 1000000) (disch := first | omega | rfl | (simp only [zL, two63, room] <;> omega) | fail) only [↓reduceIte, ↓zP, zW, WOp, evOp, evBin, binI, binSh, binS, evNil, keyIs, keyEq, mkv, AV.cells, AV.sc, optv, bnd, env, put, Env.get, Env.set, Env.del, Env.dels, Env.init, res1, resL, resV, fillP, splice, newRow, Nat.reduceEqDiff, Nat.reduceLT, Nat.reduceLeDiff, Nat.reduceAdd, Nat.reduceMul, Nat.reduceSub, Nat.reduceBEq, reduceCtorEq, ↓zR, zQ, Tr, StA, StT, hv]
  refine lp_IndexFuncC f cap P I hL hS hI L [] h rfl h0 ?_ ?_
  · intro h' h0' i hi
    simp (maxSteps := 1000000) (disch := first | omega | rfl | (simp only [zL, two63, room] <;> omega) | fail) only [↓reduceIte, ↓zP, zW, WOp, evOp, evBin, binI, binSh, binS, evNil, keyIs, keyEq, mkv, AV.cells, AV.sc, optv, bnd, env, put, Env.get, Env.set, Env.del, Env.dels, Env.init, res1, resL, resV, fillP, splice, newRow, Nat.reduceEqDiff, Nat.reduceLT, Nat.reduceLeDiff, Nat.reduceAdd, Nat.reduceMul, Nat.reduceSub, Nat.reduceBEq, reduceCtorEq, ↓zR, zQ, Tr, StA, StT]
    have := hp h' h0'
    unfold idxOf at this
    rw [hi] at this
    simpa using this
  · intro h' h0' hi
    simp (maxSteps := 1000000) (disch := first | omega | rfl | (simp only [zL, two63, room] <;> omega) | fail) only [↓reduceIte, ↓zP, zW, WOp, evOp, evBin, binI, binSh, binS, evNil, keyIs, keyEq, mkv, AV.cells, AV.sc, optv, bnd, env, put, Env.get, Env.set, Env.del, Env.dels, Env.init, res1, resL, resV, fillP, splice, newRow, Nat.reduceEqDiff, Nat.reduceLT, Nat.reduceLeDiff, Nat.reduceAdd, Nat.reduceMul, Nat.reduceSub, Nat.reduceBEq, reduceCtorEq, ↓zR, zQ, Tr, StA, StT]
    have := hp h' h0'
    unfold idxOf at this
    rw [hi] at this
    exact this
theorem c_ContainsFuncC (f : Nat) (cap : List AV) (P : (Int × Int × Int) → Bool) (I : AH → Prop) {v : AV} {L : List (Int × Int × Int)} (hL : L.length < 2 ^ 40) (hS : ∀ h, I h → Slc 3 encC h v L)
    (hI : ∀ x ∈ L, ∀ h, I h → ∀ post : AV → AH → Prop, (∀ h', I h' → post (.bool (P x)) h') → S f ([.agg (encC x)] ++ cap) h post k) {h : AH} (h0 : I h) {post : AV → AH → Prop}
    (hp : ∀ h', I h' → post (.bool (L.any P)) h') : S 177 [v, .fn f cap] h post k := by
  refine S_of rfl T177 ?_; unfold fi177
  simp (maxSteps := 1000000) (disch := first | omega | rfl | (simp only [zL, two63, room] <;> omega) | fail) only [↓reduceIte, ↓zP, zW, WOp, evOp, evBin, binI, binSh, binS, evNil, keyIs, keyEq, mkv, AV.cells, AV.sc, optv, bnd, env, put, Env.get, Env.set, Env.del, Env.dels, Env.init, res1, resL, resV, fillP, splice, newRow, Nat.reduceEqDiff, Nat.reduceLT, Nat.reduceLeDiff, Nat.reduceAdd, Nat.reduceMul, Nat.reduceSub, Nat.reduceBEq, reduceCtorEq, ↓zR, zQ, Tr, StA, StT]
  refine c_IndexFuncC f cap P I hL hS hI h0 ?_
  intro h' h0'
  simp (maxSteps := 1000000) (disch := first | omega | rfl | (simp only [zL, two63, room] <;> omega) | fail) only [↓reduceIte, ↓zP, zW, WOp, evOp, evBin, binI, binSh, binS, evNil, keyIs, keyEq, mkv, AV.cells, AV.sc, optv, bnd, env, put, Env.get, Env.set, Env.del, Env.dels, Env.init, res1, resL, resV, fillP, splice, newRow, Nat.reduceEqDiff, Nat.reduceLT, Nat.reduceLeDiff, Nat.reduceAdd, Nat.reduceMul, Nat.reduceSub, Nat.reduceBEq, reduceCtorEq, ↓zR, zQ, Tr, StA, StT, idxOf_ge]
  have := hp h' h0'
  cases e : L.any P <;> simp only [e] at this ⊢ <;> exact this
theorem lp_IndexFuncS (f : Nat) (cap : List AV) (P : (List UInt8) → Bool) (I : AH → Prop) {v : AV} {L : List (List UInt8)} (hL : L.length < 2 ^ 40) (hS : ∀ h, I h → Slc 1 encS h v L)
    (hI : ∀ x ∈ L, ∀ h, I h → ∀ post : AV → AH → Prop, (∀ h', I h' → post (.bool (P x)) h') → S f ([.str x] ++ cap) h post k) {R : X → Env → AH → Prop} : ∀ (rest pre : List (List UInt8)) (h : AH), L = pre ++ rest → I h →
    (∀ h', I h' → ∀ i, rest.findIdx? P = some i → R .ret [(4, .int .i64 ((pre.length + i : Nat) : Int))] h') → (∀ h', I h' → rest.findIdx? P = none → R (.exit 0) [] h') →
    Cx (.loop lp184_0) [(0, v), (1, .fn f cap), (7, .int .i64 L.length), (8, .int .i64 pre.length)] h R k k
  | [], pre, h, hpre, h0, h1, h2 => by
    subst hpre
    rw [w_loopb (c := lp184_0) (d := lb184_0) rfl]; unfold lb184_0
    simp only [List.append_nil]
    simp (maxSteps := 1000000) (disch := first | omega | rfl | (simp only [zL, two63, room] <;> omega) | fail) only [↓reduceIte, ↓zP, zW, WOp, evOp, evBin, binI, binSh, binS, evNil, keyIs, keyEq, mkv, AV.cells, AV.sc, optv, bnd, env, put, Env.get, Env.set, Env.del, Env.dels, Env.init, res1, resL, resV, fillP, splice, newRow, Nat.reduceEqDiff, Nat.reduceLT, Nat.reduceLeDiff, Nat.reduceAdd, Nat.reduceMul, Nat.reduceSub, Nat.reduceBEq, reduceCtorEq, ↓zR, zQ, Tr, StA, StT]
    exact h2 h h0 rfl
  | x :: rest, pre, h, hpre, h0, h1, h2 => by
    have ih := lp_IndexFuncS f cap P I hL hS hI (R := R) rest (pre ++ [x])
    subst hpre
    obtain ⟨c, kk, off, rfl, hr⟩ := (hS h h0).at hlS
    have hlen : (pre ++ x :: rest).length = pre.length + 1 + rest.length := by simp; omega
    rw [hlen] at ih hL ⊢
    rw [w_loopb (c := lp184_0) (d := lb184_0) rfl]; unfold lb184_0
    have hlt : (pre.length : Int) < ((pre.length + 1 + rest.length : Nat) : Int) := by omega
    simp (maxSteps := 1000000) (disch := first | omega | rfl | (simp only [zL, two63, room] <;> omega) | fail) only [↓reduceIte, ↓zP, zW, WOp, evOp, evBin, binI, binSh, binS, evNil, keyIs, keyEq, mkv, AV.cells, AV.sc, optv, bnd, env, put, Env.get, Env.set, Env.del, Env.dels, Env.init, res1, resL, resV, fillP, splice, newRow, Nat.reduceEqDiff, Nat.reduceLT, Nat.reduceLeDiff, Nat.reduceAdd, Nat.reduceMul, Nat.reduceSub, Nat.reduceBEq, reduceCtorEq, ↓zR, zQ, Tr, StA, StT, hlt, hr, List.length_append]
    refine hI x (by simp) h h0 _ ?_
    intro h' h0'
    cases e : P x
    · have hw : (pre.length : Int) + 1 = ((pre ++ [x]).length : Int) := by simp
      simp (maxSteps := 1000000) (disch := first | omega | rfl | (simp only [zL, two63, room] <;> omega) | fail) only [↓reduceIte, ↓zP, zW, WOp, evOp, evBin, binI, binSh, binS, evNil, keyIs, keyEq, mkv, AV.cells, AV.sc, optv, bnd, env, put, Env.get, Env.set, Env.del, Env.dels, Env.init, res1, resL, resV, fillP, splice, newRow, Nat.reduceEqDiff, Nat.reduceLT, Nat.reduceLeDiff, Nat.reduceAdd, Nat.reduceMul, Nat.reduceSub, Nat.reduceBEq, reduceCtorEq, ↓zR, zQ, Tr, StA, StT, hw]
      rw [w_loopn (c := lp184_0) rfl]
      simp (maxSteps := 1000000) (disch := first | omega | rfl | (simp only [zL, two63, room] <;> omega) | fail) only [↓reduceIte, ↓zP, zW, WOp, evOp, evBin, binI, binSh, binS, evNil, keyIs, keyEq, mkv, AV.cells, AV.sc, optv, bnd, env, put, Env.get, Env.set, Env.del, Env.dels, Env.init, res1, resL, resV, fillP, splice, newRow, Nat.reduceEqDiff, Nat.reduceLT, Nat.reduceLeDiff, Nat.reduceAdd, Nat.reduceMul, Nat.reduceSub, Nat.reduceBEq, reduceCtorEq, ↓zR, zQ, Tr, StA, StT]
      refine ih h' (by simp) h0' ?_ ?_
      · intro h2' h02 i hi
        have := h1 h2' h02 (i + 1) (by rw [List.findIdx?_cons, e]; simp [hi])
        simpa [Nat.add_assoc, Nat.add_comm 1 i] using this
      · intro h2' h02 hi
        exact h2 h2' h02 (by rw [List.findIdx?_cons, e]; simp [hi])
    · simp (maxSteps := 1000000) (disch := first | omega | rfl | (simp only [zL, two63, room] <;> omega) | fail) only [↓reduceIte, ↓zP, zW, WOp, evOp, evBin, binI, binSh, binS, evNil, keyIs, keyEq, mkv, AV.cells, AV.sc, optv, bnd, env, put, Env.get, Env.set, Env.del, Env.dels, Env.init, res1, resL, resV, fillP, splice, newRow, Nat.reduceEqDiff, Nat.reduceLT, Nat.reduceLeDiff, Nat.reduceAdd, Nat.reduceMul, Nat.reduceSub, Nat.reduceBEq, reduceCtorEq, ↓zR, zQ, Tr, StA, StT]
      simpa using h1 h' h0' 0 (by rw [List.findIdx?_cons, e]; simp)
theorem c_IndexFuncS (f : Nat) (cap : List AV) (P : (List UInt8) → Bool) (I : AH → Prop) {v : AV} {L : List (List UInt8)} (hL : L.length < 2 ^ 40) (hS : ∀ h, I h → Slc 1 encS h v L)
    (hI : ∀ x ∈ L, ∀ h, I h → ∀ post : AV → AH → Prop, (∀ h', I h' → post (.bool (P x)) h') → S f ([.str x] ++ cap) h post k) {h : AH} (h0 : I h) {post : AV → AH → Prop}
    (hp : ∀ h', I h' → post (.int .i64 (idxOf P L)) h') : S 184 [v, .fn f cap] h post k := by
  refine S_of rfl T184 ?_; unfold fi184
  have hv := fun g => Slc.lenV ((hS h h0)) (g := g) (ρ := fun _ => _) (x := .t 0) rfl; simp only [evOp] at hv
  simp (maxSteps := 1000000) (disch := first | omega | rfl | (simp only [zL, two63, room] <;> omega) | fail) only [↓reduceIte, ↓zP, zW, WOp, evOp, evBin, binI, binSh, binS, evNil, keyIs, keyEq, mkv, AV.cells, AV.sc, optv, bnd, env, put, Env.get, Env.set, Env.del, Env.dels, Env.init, res1, resL, resV, fillP, splice, newRow, Nat.reduceEqDiff, Nat.reduceLT, Nat.reduceLeDiff, Nat.reduceAdd, Nat.reduceMul, Nat.reduceSub, Nat.reduceBEq, reduceCtorEq, ↓zR, zQ, Tr, StA, StT, hv]
  refine lp_IndexFuncS f cap P I hL hS hI L [] h rfl h0 ?_ ?_
  · intro h' h0' i hi
    simp (maxSteps := 1000000) (disch := first | omega | rfl | (simp only [zL, two63, room] <;> omega) | fail) only [↓reduceIte, ↓zP, zW, WOp, evOp, evBin, binI, binSh, binS, evNil, keyIs, keyEq, mkv, AV.cells, AV.sc, optv, bnd, env, put, Env.get, Env.set, Env.del, Env.dels, Env.init, res1, resL, resV, fillP, splice, newRow, Nat.reduceEqDiff, Nat.reduceLT, Nat.reduceLeDiff, Nat.reduceAdd, Nat.reduceMul, Nat.reduceSub, Nat.reduceBEq, reduceCtorEq, ↓zR, zQ, Tr, StA, StT]
    have := hp h' h0'
    unfold idxOf at this
    rw [hi] at this
    simpa using this
  · intro h' h0' hi
    simp (maxSteps := 1000000) (disch := first | omega | rfl | (simp only [zL, two63, room] <;> omega) | fail) only [↓reduceIte, ↓zP, zW, WOp, evOp, evBin, binI, binSh, binS, evNil, keyIs, keyEq, mkv, AV.cells, AV.sc, optv, bnd, env, put, Env.get, Env.set, Env.del, Env.dels, Env.init, res1, resL, resV, fillP, splice, newRow, Nat.reduceEqDiff, Nat.reduceLT, Nat.reduceLeDiff, Nat.reduceAdd, Nat.reduceMul, Nat.reduceSub, Nat.reduceBEq, reduceCtorEq, ↓zR, zQ, Tr, StA, StT]
    have := hp h' h0'
    unfold idxOf at this
    rw [hi] at this
    exact this
end Go.Proofs.YtmlmfjjfciiblaaGreatDoor.Ab

/- slices.DeleteFunc on texts. -/
namespace Go.Proofs.YtmlmfjjfciiblaaGreatDoor.Ab
open Go
set_option maxRecDepth 100000
set_option maxHeartbeats 4000000

/-- A slice of one's own that may be written, perhaps with more behind it in its row. -/
def OwW {α : Type} (esz : Nat) (enc : α → List AV) (b h : AH) (v : AV) (L : List α) : Prop := match v with
  | .nilS | .empS => L = []
  | .slice c kk off len e => e = esz ∧ len = L.length ∧ b.length ≤ c ∧ ∃ A Z fl, h[c]? = some (.row (A ++ L.flatMap enc ++ Z) kk fl false) ∧ fl ≤ kk ∧ A.length = off
  | _ => False
section
variable {α : Type} {esz : Nat} {enc : α → List AV}
theorem OwL.w {b h : AH} {v : AV} {L : List α} (ho : OwL esz enc b h v L) : OwW esz enc b h v L := by
  unfold OwL Own at ho
  unfold OwW
  cases v <;> simp only at ho ⊢ <;> first
    | exact ho
    | exact List.eq_nil_of_length_eq_zero ho.1
    | skip
  rename_i c kk off len e
  obtain ⟨h1, h2, h3, h4, cells, fl, h5, h6, h7, h8⟩ := ho
  refine ⟨h1, h2, h4, cells.take off, [], fl, ?_, h6, by simp; omega⟩
  rw [← h8, List.append_nil, List.take_append_drop]
  exact h5
theorem OwW.slc (hl : ∀ x, (enc x).length = esz) {b h : AH} {v : AV} {L : List α} (ho : OwW esz enc b h v L) : Slc esz enc h v L := by
  unfold OwW at ho
  unfold Slc Sl
  cases v <;> simp only at ho ⊢ <;> first
    | exact ho
    | (subst ho; exact ⟨rfl, rfl⟩)
    | skip
  rename_i c kk off len e
  obtain ⟨h1, h2, h3, A, Z, fl, h4, h5, h6⟩ := ho
  refine ⟨h1, h2, (flat_len hl L).symm, ?_⟩
  have hf := flat_len hl L
  rw [rd_of h4 ⟨h5, Nat.le_refl _, by simp only [List.length_append, hf]; omega⟩]
  rw [List.append_assoc, List.drop_left' h6, List.take_left' hf]
theorem OwW.pre {b h h' : AH} (hp : Pre h h') {v : AV} {L : List α} (ho : OwW esz enc b h v L) : OwW esz enc b h' v L := by
  unfold OwW at ho ⊢
  cases v <;> simp only at ho ⊢ <;> first
    | exact ho
    | (obtain ⟨h1, h2, h3, A, Z, fl, h4, h5⟩ := ho
       exact ⟨h1, h2, h3, A, Z, fl, by rw [hp.2 _ (List.getElem?_eq_some_iff.1 h4).1]; exact h4, h5⟩)
theorem OwW.base {b b' h : AH} {v : AV} {L : List α} (ho : OwW esz enc b h v L) (hb : b'.length ≤ b.length) : OwW esz enc b' h v L := by
  unfold OwW at ho ⊢
  cases v <;> simp only at ho ⊢ <;> first
    | exact ho
    | (obtain ⟨h1, h2, h3, h4⟩ := ho; exact ⟨h1, h2, Nat.le_trans hb h3, h4⟩)
end
theorem drop_mid {α : Type} (A w : List α) (x : α) (Z : List α) {n : Nat} (hn : n = A.length + w.length) : ((A ++ (w ++ x :: Z)).drop n).take 1 = [x] := by
  subst hn
  rw [← List.append_assoc, List.drop_left' (by simp)]
  rfl
theorem splice_mid {α : Type} (A w : List α) (y x : α) (Z : List α) {n : Nat} (hn : n = A.length + w.length) : splice (A ++ (w ++ y :: Z)) n [x] = A ++ (w ++ x :: Z) := by
  subst hn
  unfold splice
  rw [← List.append_assoc, List.take_left' (by simp), List.append_assoc, ← List.drop_drop, List.drop_left' (by simp)]
  simp
theorem splice_all {α : Type} (A w m Z m' : List α) {n : Nat} (hn : n = A.length + w.length) (hm : m'.length = m.length) : splice (A ++ (w ++ (m ++ Z))) n m' = A ++ (w ++ (m' ++ Z)) := by
  subst hn
  unfold splice
  rw [← List.append_assoc, List.take_left' (by simp), ← List.drop_drop, List.drop_left' (by simp), hm, List.drop_left' rfl]
  simp

theorem lp_DeleteFuncS (f : Nat) (cap : List AV) (P : List UInt8 → Bool) {c kk off n : Nat} {A Z : List AV} (hA : A.length = off) (hn : n < 2 ^ 40) {h0 : AH} {R : X → Env → AH → Prop} : ∀ (rest Fl : List (List UInt8)) (mid : List AV) (h : AH) (fl i j : Nat),
    (∀ x ∈ rest, ∀ h', PreX c h0 h' → ∀ post : AV → AH → Prop, (∀ h'', Pre h' h'' → post (.bool (P x)) h'') → S f ([.str x] ++ cap) h' post k) → PreX c h0 h → mid ≠ [] → i = Fl.length → j = i + mid.length → n = j + rest.length → fl ≤ kk →
    h[c]? = some (.row (A ++ (Fl.map AV.str ++ (mid ++ (rest.map AV.str ++ Z)))) kk fl false) →
    (∀ h' mid' fl' i', PreX c h0 h' → fl' ≤ kk → i' = (Fl ++ rest.filter fun x => !P x).length → n = i' + mid'.length → h'[c]? = some (.row (A ++ ((Fl ++ rest.filter fun x => !P x).map AV.str ++ (mid' ++ Z))) kk fl' false) → R (.exit 0) [(0, .slice c kk off n 1), (5, .int .i64 (i' : Nat))] h') →
    Cx (.loop lp180_0) [(0, .slice c kk off n 1), (1, .fn f cap), (5, .int .i64 (i : Nat)), (6, .int .i64 (j : Nat))] h R k k
  | [], Fl, mid, h, fl, i, j, hI, hp, hm, hi, hj, hlen, hfl, hrow, hR => by
    rw [w_loopb (c := lp180_0) (d := lb180_0) rfl]; unfold lb180_0
    have hnot : ¬ ((j : Int) < (n : Int)) := by simp at hlen; omega
    simp (maxSteps := 1000000) (disch := first | omega | rfl | (simp only [zL, two63, room] <;> omega) | fail) only [↓reduceIte, ↓zP, zW, WOp, evOp, evBin, binI, binSh, binS, evNil, keyIs, keyEq, mkv, AV.cells, AV.sc, optv, bnd, env, put, Env.get, Env.set, Env.del, Env.dels, Env.init, res1, resL, resV, fillP, splice, newRow, Nat.reduceEqDiff, Nat.reduceLT, Nat.reduceLeDiff, Nat.reduceAdd, Nat.reduceMul, Nat.reduceSub, Nat.reduceBEq, reduceCtorEq, ↓zR, zQ, Tr, StA, StT, hnot]
    exact hR h mid fl i hp hfl (by simpa using hi) (by simp at hlen; omega) (by simpa using hrow)
  | x :: rest, Fl, mid, h, fl, i, j, hI, hp, hm, hi, hj, hlen, hfl, hrow, hR => by
    have ih := lp_DeleteFuncS f cap P hA hn (c := c) (h0 := h0) (kk := kk) (Z := Z) (R := R) rest
    simp only [List.length_cons] at hlen
    have hlt : (j : Int) < (n : Int) := by omega
    have hlt2 : (i : Int) < (n : Int) := by omega
    have e0 : A ++ (Fl.map AV.str ++ (mid ++ ((x :: rest).map AV.str ++ Z))) = A ++ ((Fl.map AV.str ++ mid) ++ AV.str x :: (rest.map AV.str ++ Z)) := by simp
    have hrd : rdRow h c kk (off + j * 1) 1 = some [.str x] := by
      rw [rd_of hrow ⟨hfl, Nat.le_refl _, by simp only [List.length_append, List.length_map, List.length_cons, hA]; omega⟩, e0, drop_mid _ _ _ _ (by simp [hA]; omega)]
    obtain ⟨m0, mid, rfl⟩ := List.exists_cons_of_ne_nil hm
    simp only [List.length_cons] at hj
    have w2 : (j : Int) + 1 = ((j + 1 : Nat) : Int) := by omega
    have w1 : (i : Int) + 1 = ((i + 1 : Nat) : Int) := by omega
    rw [w_loopb (c := lp180_0) (d := lb180_0) rfl]; unfold lb180_0
    simp (maxSteps := 1000000) (disch := first | omega | rfl | (simp only [zL, two63, room] <;> omega) | fail) only [↓reduceIte, ↓zP, zW, WOp, evOp, evBin, binI, binSh, binS, evNil, keyIs, keyEq, mkv, AV.cells, AV.sc, optv, bnd, env, put, Env.get, Env.set, Env.del, Env.dels, Env.init, res1, resL, resV, fillP, splice, newRow, Nat.reduceEqDiff, Nat.reduceLT, Nat.reduceLeDiff, Nat.reduceAdd, Nat.reduceMul, Nat.reduceSub, Nat.reduceBEq, reduceCtorEq, ↓zR, zQ, Tr, StA, StT, hlt, hrd]
    refine hI x (by simp) h hp _ ?_
    intro h2 hp2
    have hrow2 : h2[c]? = some (.row (A ++ (Fl.map AV.str ++ (m0 :: mid ++ ((x :: rest).map AV.str ++ Z)))) kk fl false) := by rw [hp2.2 c (List.getElem?_eq_some_iff.1 hrow).1]; exact hrow
    have hpx2 := hp.trans (hp2.x c)
    have hc2 := (List.getElem?_eq_some_iff.1 hrow2).1
    cases e : P x
    · have e1 : A ++ (Fl.map AV.str ++ (m0 :: mid ++ ((x :: rest).map AV.str ++ Z))) = A ++ (Fl.map AV.str ++ m0 :: (mid ++ AV.str x :: (rest.map AV.str ++ Z))) := by simp
      have hwr : wrRow h2 c kk (off + i * 1) [.str x] = some (h2.set c (.row (A ++ (Fl.map AV.str ++ AV.str x :: (mid ++ AV.str x :: (rest.map AV.str ++ Z)))) kk kk false)) := by
        rw [e1] at hrow2
        rw [wr_of hrow2 ⟨rfl, hfl, by simp only [List.length_append, List.length_map, List.length_cons, List.length_nil, hA]; omega⟩, splice_mid _ _ _ _ _ (by simp [hA]; omega)]
        rfl
      simp (maxSteps := 1000000) (disch := first | omega | rfl | (simp only [zL, two63, room] <;> omega) | fail) only [↓reduceIte, ↓zP, zW, WOp, evOp, evBin, binI, binSh, binS, evNil, keyIs, keyEq, mkv, AV.cells, AV.sc, optv, bnd, env, put, Env.get, Env.set, Env.del, Env.dels, Env.init, res1, resL, resV, fillP, splice, newRow, Nat.reduceEqDiff, Nat.reduceLT, Nat.reduceLeDiff, Nat.reduceAdd, Nat.reduceMul, Nat.reduceSub, Nat.reduceBEq, reduceCtorEq, ↓zR, zQ, Tr, StA, StT, e, hlt2, hwr, w1, w2]
      rw [w_loopn (c := lp180_0) rfl]
      simp (maxSteps := 1000000) (disch := first | omega | rfl | (simp only [zL, two63, room] <;> omega) | fail) only [↓reduceIte, ↓zP, zW, WOp, evOp, evBin, binI, binSh, binS, evNil, keyIs, keyEq, mkv, AV.cells, AV.sc, optv, bnd, env, put, Env.get, Env.set, Env.del, Env.dels, Env.init, res1, resL, resV, fillP, splice, newRow, Nat.reduceEqDiff, Nat.reduceLT, Nat.reduceLeDiff, Nat.reduceAdd, Nat.reduceMul, Nat.reduceSub, Nat.reduceBEq, reduceCtorEq, ↓zR, zQ, Tr, StA, StT]
      have hfilt : (x :: rest).filter (fun x => !P x) = x :: rest.filter fun x => !P x := by rw [List.filter_cons, e]; rfl
      rw [hfilt] at hR
      refine ih (Fl ++ [x]) (mid ++ [AV.str x]) _ kk (i + 1) (j + 1) (fun y hy => hI y (by simp [hy])) (hpx2.trans (PreX.refl c h2).set) (by simp) (by simp; omega) (by simp; omega) (by omega) (Nat.le_refl _) ?_ ?_
      · rw [List.getElem?_set, if_pos rfl, if_pos hc2]
        simp
      · intro h' mid' fl' i' q1 q2 q3 q4 q5
        exact hR h' mid' fl' i' q1 q2 (by simpa using q3) q4 (by simpa using q5)
    · simp (maxSteps := 1000000) (disch := first | omega | rfl | (simp only [zL, two63, room] <;> omega) | fail) only [↓reduceIte, ↓zP, zW, WOp, evOp, evBin, binI, binSh, binS, evNil, keyIs, keyEq, mkv, AV.cells, AV.sc, optv, bnd, env, put, Env.get, Env.set, Env.del, Env.dels, Env.init, res1, resL, resV, fillP, splice, newRow, Nat.reduceEqDiff, Nat.reduceLT, Nat.reduceLeDiff, Nat.reduceAdd, Nat.reduceMul, Nat.reduceSub, Nat.reduceBEq, reduceCtorEq, ↓zR, zQ, Tr, StA, StT, e, w2]
      rw [w_loopn (c := lp180_0) rfl]
      simp (maxSteps := 1000000) (disch := first | omega | rfl | (simp only [zL, two63, room] <;> omega) | fail) only [↓reduceIte, ↓zP, zW, WOp, evOp, evBin, binI, binSh, binS, evNil, keyIs, keyEq, mkv, AV.cells, AV.sc, optv, bnd, env, put, Env.get, Env.set, Env.del, Env.dels, Env.init, res1, resL, resV, fillP, splice, newRow, Nat.reduceEqDiff, Nat.reduceLT, Nat.reduceLeDiff, Nat.reduceAdd, Nat.reduceMul, Nat.reduceSub, Nat.reduceBEq, reduceCtorEq, ↓zR, zQ, Tr, StA, StT]
      have hfilt : (x :: rest).filter (fun x => !P x) = rest.filter fun x => !P x := by rw [List.filter_cons, e]; rfl
      rw [hfilt] at hR
      refine ih Fl (m0 :: mid ++ [AV.str x]) h2 fl i (j + 1) (fun y hy => hI y (by simp [hy])) hpx2 (by simp) hi (by simp; omega) (by omega) hfl (by rw [hrow2]; simp) hR

theorem take_slice {α : Type} {P : α → Bool} {L : List α} {i : Nat} (h : L.findIdx? P = some i) : ∃ x rest, L = L.take i ++ x :: rest ∧ P x = true ∧ L.filter (fun x => !P x) = L.take i ++ rest.filter (fun x => !P x) ∧ i < L.length := by
  rw [List.findIdx?_eq_some_iff_getElem] at h
  obtain ⟨hi, hp, hn⟩ := h
  have e : L = L.take i ++ L[i] :: L.drop (i + 1) := by rw [← List.drop_eq_getElem_cons, List.take_append_drop]
  refine ⟨L[i], L.drop (i + 1), e, hp, ?_, hi⟩
  rw [e, List.filter_append, List.filter_cons, hp, ← e]
  simp only [Bool.not_true, Bool.false_eq_true, if_false]
  congr 1
  rw [List.filter_eq_self]
  intro x hx
  obtain ⟨j, hj, rfl⟩ := List.getElem_of_mem hx
  simp at hj
  have := hn j (by omega)
  simp at this ⊢
  exact this
/-- All old rows but the slice's own are as they were. -/
def PreV (v : AV) (h h' : AH) : Prop := h.length ≤ h'.length ∧ ∀ i, i < h.length → (∀ c kk off n e, v = .slice c kk off n e → i ≠ c) → h'[i]? = h[i]?
theorem Pre.v {h h' : AH} (hp : Pre h h') (v : AV) : PreV v h h' := ⟨hp.1, fun i hi _ => hp.2 i hi⟩
theorem PreX.v {h h' : AH} {c kk off n e : Nat} (hp : PreX c h h') : PreV (.slice c kk off n e) h h' := ⟨hp.1, fun i hi hc => hp.2 i hi (hc c kk off n e rfl)⟩
theorem flatS (L : List (List UInt8)) : L.flatMap encS = L.map AV.str := by
  induction L with
  | nil => rfl
  | cons a L ih => rw [List.flatMap_cons, ih]; rfl
theorem c_DeleteFuncS (f : Nat) (cap : List AV) (P : List UInt8 → Bool) {b h : AH} {v : AV} {L : List (List UInt8)} (ho : OwW 1 encS b h v L) (hL : L.length < 2 ^ 40)
    (hI : ∀ x ∈ L, ∀ h', PreV v h h' → ∀ post : AV → AH → Prop, (∀ h'', Pre h' h'' → post (.bool (P x)) h'') → S f ([.str x] ++ cap) h' post k) {post : AV → AH → Prop}
    (hp : ∀ v' h', OwW 1 encS b h' v' (L.filter fun x => !P x) → PreV v h h' → post v' h') : S 180 [v, .fn f cap] h post k := by
  refine S_of rfl T180 ?_; unfold fi180
  simp (maxSteps := 1000000) (disch := first | omega | rfl | (simp only [zL, two63, room] <;> omega) | fail) only [↓reduceIte, ↓zP, zW, WOp, evOp, evBin, binI, binSh, binS, evNil, keyIs, keyEq, mkv, AV.cells, AV.sc, optv, bnd, env, put, Env.get, Env.set, Env.del, Env.dels, Env.init, res1, resL, resV, fillP, splice, newRow, Nat.reduceEqDiff, Nat.reduceLT, Nat.reduceLeDiff, Nat.reduceAdd, Nat.reduceMul, Nat.reduceSub, Nat.reduceBEq, reduceCtorEq, ↓zR, zQ, Tr, StA, StT]
  refine c_IndexFuncS f cap P (fun h' => Pre h h') hL (fun h' hp' => (ho.pre hp').slc hlS) ?_ (Pre.refl h) ?_
  · intro x hx h' hp' post hpost
    exact hI x hx h' (hp'.v v) post fun h'' hp'' => hpost h'' (hp'.trans hp'')
  intro h2 hp2
  unfold idxOf
  cases hf : L.findIdx? P with
  | none =>
    have hfl : (L.filter fun x => !P x) = L := by
      rw [List.findIdx?_eq_none_iff] at hf
      rw [List.filter_eq_self]
      intro x hx; simp [hf x hx]
    rw [hfl] at hp
    simp (maxSteps := 1000000) (disch := first | omega | rfl | (simp only [zL, two63, room] <;> omega) | fail) only [↓reduceIte, ↓zP, zW, WOp, evOp, evBin, binI, binSh, binS, evNil, keyIs, keyEq, mkv, AV.cells, AV.sc, optv, bnd, env, put, Env.get, Env.set, Env.del, Env.dels, Env.init, res1, resL, resV, fillP, splice, newRow, Nat.reduceEqDiff, Nat.reduceLT, Nat.reduceLeDiff, Nat.reduceAdd, Nat.reduceMul, Nat.reduceSub, Nat.reduceBEq, reduceCtorEq, ↓zR, zQ, Tr, StA, StT]
    exact hp v h2 (ho.pre hp2) (hp2.v v)
  | some i =>
    obtain ⟨x, rest, hLe, hPx, hfl, hi⟩ := take_slice hf
    rw [hfl] at hp
    have ho2 := ho.pre hp2
    unfold OwW at ho2
    cases v <;> simp only at ho2 <;> first
      | (exact ho2.elim)
      | (rw [ho2] at hi; simp at hi; done)
      | skip
    rename_i c kk off n e
    obtain ⟨rfl, hn, hbc, A, Z, fl, hrow, hfl2, hA⟩ := ho2
    have hi1 : (i : Int) + 1 = ((i + 1 : Nat) : Int) := by omega
    have hne : ((i : Int) == -1) = false := by simp
    have hil : (L.take i).length = i := by simp; omega
    have hll : L.length = i + 1 + rest.length := by
      have := congrArg List.length hLe
      simp only [List.length_append, List.length_cons, hil] at this
      omega
    have hc2 := (List.getElem?_eq_some_iff.1 hrow).1
    simp (maxSteps := 1000000) (disch := first | omega | rfl | (simp only [zL, two63, room] <;> omega) | fail) only [↓reduceIte, ↓zP, zW, WOp, evOp, evBin, binI, binSh, binS, evNil, keyIs, keyEq, mkv, AV.cells, AV.sc, optv, bnd, env, put, Env.get, Env.set, Env.del, Env.dels, Env.init, res1, resL, resV, fillP, splice, newRow, Nat.reduceEqDiff, Nat.reduceLT, Nat.reduceLeDiff, Nat.reduceAdd, Nat.reduceMul, Nat.reduceSub, Nat.reduceBEq, reduceCtorEq, ↓zR, zQ, Tr, StA, StT, hne, hi1]
    refine lp_DeleteFuncS f cap P hA (by omega) (Z := Z) (h0 := h2) rest (L.take i) [.str x] h2 fl i (i + 1) ?_ (PreX.refl _ _) (by simp) hil.symm (by simp) (by omega) hfl2 ?_ ?_
    · intro y hy h' hpx post hpost
      refine hI y (by rw [hLe]; simp [hy]) h' ?_ post hpost
      exact ((hp2.x c).trans hpx).v
    · have hm : L.map AV.str = (L.take i).map AV.str ++ AV.str x :: rest.map AV.str := by
        conv => lhs; rw [hLe]
        rw [List.map_append, List.map_cons]
      rw [hrow, flatS, hm]
      simp only [List.append_assoc, List.cons_append, List.nil_append]
    · intro h3 mid fl3 i' hpx3 hfl3 hi' hn3 hrow3
      generalize (L.take i ++ rest.filter fun x => !P x) = M at *
      have hlt : (i' : Int) ≤ (n : Int) := by omega
      have hag : PreX c h h3 := (hp2.x c).trans hpx3
      have hc3 := (List.getElem?_eq_some_iff.1 hrow3).1
      have fin : ∀ h4 m4 fl4, h4[c]? = some (.row (A ++ (M.map AV.str ++ (m4 ++ Z))) kk fl4 false) → fl4 ≤ kk → PreX c h h4 → post (.slice c kk (off + 0) (i' - 0) 1) h4 := by
        intro h4 m4 fl4 hr4 hf4 ha4
        refine hp _ h4 ?_ ha4.v
        unfold OwW
        simp only
        refine ⟨trivial, by omega, hbc, A, m4 ++ Z, fl4, ?_, hf4, by omega⟩
        rw [hr4, flatS]
        simp only [List.append_assoc]
      by_cases hz : n - i' = 0
      · simp (maxSteps := 1000000) (disch := first | omega | rfl | (simp only [zL, two63, room] <;> omega) | fail) only [↓reduceIte, ↓zP, zW, WOp, evOp, evBin, binI, binSh, binS, evNil, keyIs, keyEq, mkv, AV.cells, AV.sc, optv, bnd, env, put, Env.get, Env.set, Env.del, Env.dels, Env.init, res1, resL, resV, fillP, splice, newRow, Nat.reduceEqDiff, Nat.reduceLT, Nat.reduceLeDiff, Nat.reduceAdd, Nat.reduceMul, Nat.reduceSub, Nat.reduceBEq, reduceCtorEq, ↓zR, zQ, Tr, StA, StT, hz]
        exact fin h3 mid fl3 hrow3 hfl3 hag
      · have hrep : (List.replicate (n - i') [AV.str []]).flatten = List.replicate (n - i') (AV.str []) := by
          induction n - i' with
          | zero => rfl
          | succ m ih => simp [List.replicate_succ, ih]
        have hall : (List.replicate (n - i') (AV.str [])).all AV.sc = true := by simp [AV.sc]
        have hwr : wrRow h3 c kk (off + i' * 1) (List.replicate (n - i') (AV.str [])) = some (h3.set c (.row (A ++ (M.map AV.str ++ (List.replicate (n - i') (AV.str []) ++ Z))) kk kk false)) := by
          rw [wr_of hrow3 ⟨rfl, hfl3, by simp only [List.length_append, List.length_map, List.length_replicate, hA]; omega⟩, if_pos hall, splice_all _ _ _ _ _ (by simp [hA]; omega) (by simp; omega)]
        simp (maxSteps := 1000000) (disch := first | omega | rfl | (simp only [zL, two63, room] <;> omega) | fail) only [↓reduceIte, ↓zP, zW, WOp, evOp, evBin, binI, binSh, binS, evNil, keyIs, keyEq, mkv, AV.cells, AV.sc, optv, bnd, env, put, Env.get, Env.set, Env.del, Env.dels, Env.init, res1, resL, resV, fillP, splice, newRow, Nat.reduceEqDiff, Nat.reduceLT, Nat.reduceLeDiff, Nat.reduceAdd, Nat.reduceMul, Nat.reduceSub, Nat.reduceBEq, reduceCtorEq, ↓zR, zQ, Tr, StA, StT, hz, hrep, hwr]
        refine fin _ (List.replicate (n - i') (AV.str [])) kk ?_ (Nat.le_refl _) hag.set
        rw [List.getElem?_set, if_pos rfl, if_pos hc3]
end Go.Proofs.YtmlmfjjfciiblaaGreatDoor.Ab

/- LINES: what the reference's small functions answer. -/
namespace Go.Proofs.YtmlmfjjfciiblaaGreatDoor.Ab
open Go
set_option maxRecDepth 100000
set_option maxHeartbeats 4000000

theorem c_l1In (n lo hi : Int) {h : AH} {post : AV → AH → Prop} (hp : post (.bool (decide (lo ≤ n ∧ n ≤ hi))) h) : S 77 [.int .i64 n, .int .i64 lo, .int .i64 hi] h post k := by
  refine S_of rfl T77 ?_
  unfold fi77
  simp only [↓reduceIte, ↓zP, zW, WOp, evOp, evBin, binI, binSh, binS, evNil, keyIs, keyEq, mkv, AV.cells, AV.sc, optv, bnd, env, put, Env.get, Env.set, Env.del, Env.dels, Env.init, res1, resL, resV, fillP, splice, newRow, Nat.reduceEqDiff, Nat.reduceLT, Nat.reduceLeDiff, Nat.reduceAdd, Nat.reduceMul, Nat.reduceSub, Nat.reduceBEq, reduceCtorEq]
  apply WB_dec
  · intro h1
    simp only [↓reduceIte, ↓zP, zW, WOp, evOp, evBin, binI, binSh, binS, evNil, keyIs, keyEq, mkv, AV.cells, AV.sc, optv, bnd, env, put, Env.get, Env.set, Env.del, Env.dels, Env.init, res1, resL, resV, fillP, splice, newRow, Nat.reduceEqDiff, Nat.reduceLT, Nat.reduceLeDiff, Nat.reduceAdd, Nat.reduceMul, Nat.reduceSub, Nat.reduceBEq, reduceCtorEq, h1]
    simpa [h1] using hp
  · intro h1
    simp only [↓reduceIte, ↓zP, zW, WOp, evOp, evBin, binI, binSh, binS, evNil, keyIs, keyEq, mkv, AV.cells, AV.sc, optv, bnd, env, put, Env.get, Env.set, Env.del, Env.dels, Env.init, res1, resL, resV, fillP, splice, newRow, Nat.reduceEqDiff, Nat.reduceLT, Nat.reduceLeDiff, Nat.reduceAdd, Nat.reduceMul, Nat.reduceSub, Nat.reduceBEq, reduceCtorEq, h1]
    simpa [h1] using hp

def isSign (b : UInt8) : Bool := b == 84 || b == 70 || b == 46
def goodLine (s : List UInt8) : Bool := decide (1 ≤ s.length ∧ s.length ≤ 12) && s.all isSign

theorem u8_eq (b c : UInt8) {n : Int} (hc : (c.toNat : Int) = n) : (((b.toNat : Nat) : Int) == n) = (b == c) := by
  subst hc
  by_cases h : b = c
  · subst h; simp
  · have : ¬ ((b.toNat : Int) = (c.toNat : Int)) := fun hh => h (UInt8.toNat_inj.1 (by omega))
    rw [beq_eq_false_iff_ne.2 h, beq_eq_false_iff_ne.2 this]
theorem u8_ne (b c : UInt8) {n : Int} (hc : (c.toNat : Int) = n) : (((b.toNat : Nat) : Int) != n) = !(b == c) := by
  show (!(((b.toNat : Nat) : Int) == n)) = _
  rw [u8_eq b c hc]

end Go.Proofs.YtmlmfjjfciiblaaGreatDoor.Ab

/- LINES AND MOVES: the program's small functions. -/
namespace Go.Proofs.YtmlmfjjfciiblaaGreatDoor.Ab
open Go
set_option maxRecDepth 100000
set_option maxHeartbeats 4000000

abbrev by8 (b : UInt8) : AV := .int .u8 b.toNat
theorem c_within (n lo hi : Int) {h : AH} {post : AV → AH → Prop} (hp : post (.bool (decide (lo ≤ n ∧ n ≤ hi))) h) : S 74 [.int .i64 n, .int .i64 lo, .int .i64 hi] h post k := by
  refine S_of rfl T74 ?_
  unfold fi74
  simp only [↓reduceIte, ↓zP, zW, WOp, evOp, evBin, binI, binSh, binS, evNil, keyIs, keyEq, mkv, AV.cells, AV.sc, optv, bnd, env, put, Env.get, Env.set, Env.del, Env.dels, Env.init, res1, resL, resV, fillP, splice, newRow, Nat.reduceEqDiff, Nat.reduceLT, Nat.reduceLeDiff, Nat.reduceAdd, Nat.reduceMul, Nat.reduceSub, Nat.reduceBEq, reduceCtorEq]
  apply WB_dec
  · intro h1
    simp only [↓reduceIte, ↓zP, zW, WOp, evOp, evBin, binI, binSh, binS, evNil, keyIs, keyEq, mkv, AV.cells, AV.sc, optv, bnd, env, put, Env.get, Env.set, Env.del, Env.dels, Env.init, res1, resL, resV, fillP, splice, newRow, Nat.reduceEqDiff, Nat.reduceLT, Nat.reduceLeDiff, Nat.reduceAdd, Nat.reduceMul, Nat.reduceSub, Nat.reduceBEq, reduceCtorEq, h1]
    simpa [h1] using hp
  · intro h1
    simp only [↓reduceIte, ↓zP, zW, WOp, evOp, evBin, binI, binSh, binS, evNil, keyIs, keyEq, mkv, AV.cells, AV.sc, optv, bnd, env, put, Env.get, Env.set, Env.del, Env.dels, Env.init, res1, resL, resV, fillP, splice, newRow, Nat.reduceEqDiff, Nat.reduceLT, Nat.reduceLeDiff, Nat.reduceAdd, Nat.reduceMul, Nat.reduceSub, Nat.reduceBEq, reduceCtorEq, h1]
    simpa [h1] using hp

def stepB (b : UInt8) : Int := if b == 84 then 1 else if b == 70 then -1 else 0
def otherB (b : UInt8) : UInt8 := if b == 84 then 70 else if b == 70 then 84 else b
def atB (w : List UInt8) (i : Int) : UInt8 := if 0 ≤ i ∧ i < w.length then w.getD i.toNat 0 else 0

theorem c_stepOf (b : UInt8) {h : AH} {post : AV → AH → Prop} (hp : post (.int .i64 (stepB b)) h) : S 103 [by8 b] h post k := by
  refine S_of rfl T103 ?_
  unfold fi103
  have u1 := u8_eq b 84 (n := 84) rfl
  have u2 := u8_eq b 70 (n := 70) rfl
  cases e1 : (b == 84) <;> cases e2 : (b == 70) <;> simp only [stepB, e1, e2, if_true, if_false, Bool.false_eq_true] at hp <;> simp only [↓reduceIte, ↓zP, zW, WOp, evOp, evBin, binI, binSh, binS, evNil, keyIs, keyEq, mkv, AV.cells, AV.sc, optv, bnd, env, put, Env.get, Env.set, Env.del, Env.dels, Env.init, res1, resL, resV, fillP, splice, newRow, Nat.reduceEqDiff, Nat.reduceLT, Nat.reduceLeDiff, Nat.reduceAdd, Nat.reduceMul, Nat.reduceSub, Nat.reduceBEq, reduceCtorEq, u1, u2, e1, e2] <;> exact hp

theorem c_other (b : UInt8) {h : AH} {post : AV → AH → Prop} (hp : post (by8 (otherB b)) h) : S 109 [by8 b] h post k := by
  refine S_of rfl T109 ?_
  unfold fi109
  have u1 := u8_eq b 84 (n := 84) rfl
  have u2 := u8_eq b 70 (n := 70) rfl
  cases e1 : (b == 84) <;> cases e2 : (b == 70) <;> simp only [otherB, e1, e2, if_true, if_false, Bool.false_eq_true] at hp <;> simp only [↓reduceIte, ↓zP, zW, WOp, evOp, evBin, binI, binSh, binS, evNil, keyIs, keyEq, mkv, AV.cells, AV.sc, optv, bnd, env, put, Env.get, Env.set, Env.del, Env.dels, Env.init, res1, resL, resV, fillP, splice, newRow, Nat.reduceEqDiff, Nat.reduceLT, Nat.reduceLeDiff, Nat.reduceAdd, Nat.reduceMul, Nat.reduceSub, Nat.reduceBEq, reduceCtorEq, u1, u2, e1, e2] <;> exact hp

theorem c_at (w : List UInt8) (i : Int) {h : AH} {post : AV → AH → Prop} (hp : post (by8 (atB w i)) h) : S 125 [.str w, .int .i64 i] h post k := by
  refine S_of rfl T125 ?_
  unfold fi125
  unfold atB at hp
  by_cases h1 : i < 0
  · have h2 : ¬ (0 ≤ i ∧ i < w.length) := by omega
    rw [if_neg h2] at hp
    simp only [↓reduceIte, ↓zP, zW, WOp, evOp, evBin, binI, binSh, binS, evNil, keyIs, keyEq, mkv, AV.cells, AV.sc, optv, bnd, env, put, Env.get, Env.set, Env.del, Env.dels, Env.init, res1, resL, resV, fillP, splice, newRow, Nat.reduceEqDiff, Nat.reduceLT, Nat.reduceLeDiff, Nat.reduceAdd, Nat.reduceMul, Nat.reduceSub, Nat.reduceBEq, reduceCtorEq, h1]
    exact hp
  · by_cases h2 : i ≥ w.length
    · have h3 : ¬ (0 ≤ i ∧ i < w.length) := by omega
      rw [if_neg h3] at hp
      simp only [↓reduceIte, ↓zP, zW, WOp, evOp, evBin, binI, binSh, binS, evNil, keyIs, keyEq, mkv, AV.cells, AV.sc, optv, bnd, env, put, Env.get, Env.set, Env.del, Env.dels, Env.init, res1, resL, resV, fillP, splice, newRow, Nat.reduceEqDiff, Nat.reduceLT, Nat.reduceLeDiff, Nat.reduceAdd, Nat.reduceMul, Nat.reduceSub, Nat.reduceBEq, reduceCtorEq, h1, h2]
      exact hp
    · have h3 : (0 ≤ i ∧ i < w.length) := by omega
      rw [if_pos h3] at hp
      simp only [↓reduceIte, ↓zP, zW, WOp, evOp, evBin, binI, binSh, binS, evNil, keyIs, keyEq, mkv, AV.cells, AV.sc, optv, bnd, env, put, Env.get, Env.set, Env.del, Env.dels, Env.init, res1, resL, resV, fillP, splice, newRow, Nat.reduceEqDiff, Nat.reduceLT, Nat.reduceLeDiff, Nat.reduceAdd, Nat.reduceMul, Nat.reduceSub, Nat.reduceBEq, reduceCtorEq, h1, h2]
      exact ⟨h3, hp⟩

def goalB (w : List UInt8) (i : Nat) : Option Int :=
  if stepB (w.getD i 0) == 0 then none
  else if atB w (i + stepB (w.getD i 0)) == 46 then some (i + stepB (w.getD i 0))
  else if (atB w (i + stepB (w.getD i 0)) == otherB (w.getD i 0)) && (atB w (i + 2 * stepB (w.getD i 0)) == 46) then some (i + 2 * stepB (w.getD i 0))
  else none
def goalV (w : List UInt8) (i : Nat) : AV := match goalB w i with
  | some t => .tup [.int .i64 t, .bool true]
  | none => .tup [.int .i64 0, .bool false]

theorem stepB_range (b : UInt8) : stepB b = 0 ∨ stepB b = 1 ∨ stepB b = -1 := by
  unfold stepB; split
  · simp
  · split <;> simp
theorem wrap_id {n : Int} (h1 : -9223372036854775808 ≤ n) (h2 : n ≤ 9223372036854775807) : IntKind.i64.wrap n = n := by rw [IntKind.wrap_i64]; omega

theorem c_kindOf (t : Bool) {h : AH} {post : AV → AH → Prop} (hp : post (.str (if t then [84] else [70])) h) : S 200 [.bool t] h post k := by
  refine S_of rfl T200 ?_
  unfold fi200
  cases t <;> simp only [↓reduceIte, ↓zP, zW, WOp, evOp, evBin, binI, binSh, binS, evNil, keyIs, keyEq, mkv, AV.cells, AV.sc, optv, bnd, env, put, Env.get, Env.set, Env.del, Env.dels, Env.init, res1, resL, resV, fillP, splice, newRow, Nat.reduceEqDiff, Nat.reduceLT, Nat.reduceLeDiff, Nat.reduceAdd, Nat.reduceMul, Nat.reduceSub, Nat.reduceBEq, reduceCtorEq] <;> exact hp

theorem c_goal (w : List UInt8) (i : Nat) (hi : i < w.length) (hw : w.length < 2 ^ 60) {h : AH} {post : AV → AH → Prop} (hp : post (goalV w i) h) : S 127 [.str w, .int .i64 i] h post k := by
  refine S_of rfl T127 ?_
  unfold fi127
  have hi' : (i : Int) < (w.length : Int) := by omega
  simp only [↓reduceIte, ↓zP, zW, WOp, evOp, evBin, binI, binSh, binS, evNil, keyIs, keyEq, mkv, AV.cells, AV.sc, optv, bnd, env, put, Env.get, Env.set, Env.del, Env.dels, Env.init, res1, resL, resV, fillP, splice, newRow, Nat.reduceEqDiff, Nat.reduceLT, Nat.reduceLeDiff, Nat.reduceAdd, Nat.reduceMul, Nat.reduceSub, Nat.reduceBEq, reduceCtorEq, hi']
  refine c_stepOf _ ?_
  simp only [↓reduceIte, ↓zP, zW, WOp, evOp, evBin, binI, binSh, binS, evNil, keyIs, keyEq, mkv, AV.cells, AV.sc, optv, bnd, env, put, Env.get, Env.set, Env.del, Env.dels, Env.init, res1, resL, resV, fillP, splice, newRow, Nat.reduceEqDiff, Nat.reduceLT, Nat.reduceLeDiff, Nat.reduceAdd, Nat.reduceMul, Nat.reduceSub, Nat.reduceBEq, reduceCtorEq]
  have hr := stepB_range (w.getD i 0)
  generalize hd : stepB (w.getD i 0) = d at *
  have w1 : IntKind.i64.wrap ((i : Int) + d) = i + d := wrap_id (by omega) (by omega)
  have w2 : IntKind.i64.wrap (2 * d) = 2 * d := wrap_id (by omega) (by omega)
  have w3 : IntKind.i64.wrap ((i : Int) + 2 * d) = i + 2 * d := wrap_id (by omega) (by omega)
  cases e0 : (d == 0)
  · simp only [↓reduceIte, ↓zP, zW, WOp, evOp, evBin, binI, binSh, binS, evNil, keyIs, keyEq, mkv, AV.cells, AV.sc, optv, bnd, env, put, Env.get, Env.set, Env.del, Env.dels, Env.init, res1, resL, resV, fillP, splice, newRow, Nat.reduceEqDiff, Nat.reduceLT, Nat.reduceLeDiff, Nat.reduceAdd, Nat.reduceMul, Nat.reduceSub, Nat.reduceBEq, reduceCtorEq, e0, w1]
    refine c_at _ _ ?_
    have u1 := u8_eq (atB w (i + d)) 46 (n := 46) rfl
    cases e1 : (atB w (i + d) == 46)
    · simp only [↓reduceIte, ↓zP, zW, WOp, evOp, evBin, binI, binSh, binS, evNil, keyIs, keyEq, mkv, AV.cells, AV.sc, optv, bnd, env, put, Env.get, Env.set, Env.del, Env.dels, Env.init, res1, resL, resV, fillP, splice, newRow, Nat.reduceEqDiff, Nat.reduceLT, Nat.reduceLeDiff, Nat.reduceAdd, Nat.reduceMul, Nat.reduceSub, Nat.reduceBEq, reduceCtorEq, u1, e1, w1]
      refine c_at _ _ ?_
      simp only [↓reduceIte, ↓zP, zW, WOp, evOp, evBin, binI, binSh, binS, evNil, keyIs, keyEq, mkv, AV.cells, AV.sc, optv, bnd, env, put, Env.get, Env.set, Env.del, Env.dels, Env.init, res1, resL, resV, fillP, splice, newRow, Nat.reduceEqDiff, Nat.reduceLT, Nat.reduceLeDiff, Nat.reduceAdd, Nat.reduceMul, Nat.reduceSub, Nat.reduceBEq, reduceCtorEq, hi']
      refine c_other _ ?_
      have u2 := u8_eq (atB w (i + d)) (otherB (w.getD i 0)) rfl
      cases e2 : (atB w (i + d) == otherB (w.getD i 0))
      · simp only [↓reduceIte, ↓zP, zW, WOp, evOp, evBin, binI, binSh, binS, evNil, keyIs, keyEq, mkv, AV.cells, AV.sc, optv, bnd, env, put, Env.get, Env.set, Env.del, Env.dels, Env.init, res1, resL, resV, fillP, splice, newRow, Nat.reduceEqDiff, Nat.reduceLT, Nat.reduceLeDiff, Nat.reduceAdd, Nat.reduceMul, Nat.reduceSub, Nat.reduceBEq, reduceCtorEq, u2, e2]
        simp only [goalV, goalB, hd, e0, e1, e2, if_true, if_false, Bool.false_eq_true, Bool.false_and] at hp
        exact hp
      · simp only [↓reduceIte, ↓zP, zW, WOp, evOp, evBin, binI, binSh, binS, evNil, keyIs, keyEq, mkv, AV.cells, AV.sc, optv, bnd, env, put, Env.get, Env.set, Env.del, Env.dels, Env.init, res1, resL, resV, fillP, splice, newRow, Nat.reduceEqDiff, Nat.reduceLT, Nat.reduceLeDiff, Nat.reduceAdd, Nat.reduceMul, Nat.reduceSub, Nat.reduceBEq, reduceCtorEq, u2, e2, w2, w3]
        refine c_at _ _ ?_
        have u3 := u8_eq (atB w (i + 2 * d)) 46 (n := 46) rfl
        cases e3 : (atB w (i + 2 * d) == 46)
        · simp only [↓reduceIte, ↓zP, zW, WOp, evOp, evBin, binI, binSh, binS, evNil, keyIs, keyEq, mkv, AV.cells, AV.sc, optv, bnd, env, put, Env.get, Env.set, Env.del, Env.dels, Env.init, res1, resL, resV, fillP, splice, newRow, Nat.reduceEqDiff, Nat.reduceLT, Nat.reduceLeDiff, Nat.reduceAdd, Nat.reduceMul, Nat.reduceSub, Nat.reduceBEq, reduceCtorEq, u3, e3]
          simp only [goalV, goalB, hd, e0, e1, e2, e3, if_true, if_false, Bool.false_eq_true, Bool.and_false] at hp
          exact hp
        · simp only [↓reduceIte, ↓zP, zW, WOp, evOp, evBin, binI, binSh, binS, evNil, keyIs, keyEq, mkv, AV.cells, AV.sc, optv, bnd, env, put, Env.get, Env.set, Env.del, Env.dels, Env.init, res1, resL, resV, fillP, splice, newRow, Nat.reduceEqDiff, Nat.reduceLT, Nat.reduceLeDiff, Nat.reduceAdd, Nat.reduceMul, Nat.reduceSub, Nat.reduceBEq, reduceCtorEq, u3, e3, w2, w3]
          simp only [goalV, goalB, hd, e0, e1, e2, e3, if_true, if_false, Bool.false_eq_true, Bool.and_true] at hp
          exact hp
    · simp only [↓reduceIte, ↓zP, zW, WOp, evOp, evBin, binI, binSh, binS, evNil, keyIs, keyEq, mkv, AV.cells, AV.sc, optv, bnd, env, put, Env.get, Env.set, Env.del, Env.dels, Env.init, res1, resL, resV, fillP, splice, newRow, Nat.reduceEqDiff, Nat.reduceLT, Nat.reduceLeDiff, Nat.reduceAdd, Nat.reduceMul, Nat.reduceSub, Nat.reduceBEq, reduceCtorEq, u1, e1, w1]
      simp only [goalV, goalB, hd, e0, e1, if_true, if_false, Bool.false_eq_true] at hp
      exact hp
  · simp only [↓reduceIte, ↓zP, zW, WOp, evOp, evBin, binI, binSh, binS, evNil, keyIs, keyEq, mkv, AV.cells, AV.sc, optv, bnd, env, put, Env.get, Env.set, Env.del, Env.dels, Env.init, res1, resL, resV, fillP, splice, newRow, Nat.reduceEqDiff, Nat.reduceLT, Nat.reduceLeDiff, Nat.reduceAdd, Nat.reduceMul, Nat.reduceSub, Nat.reduceBEq, reduceCtorEq, e0]
    simp only [goalV, goalB, hd, e0, if_true] at hp
    exact hp

end Go.Proofs.YtmlmfjjfciiblaaGreatDoor.Ab
