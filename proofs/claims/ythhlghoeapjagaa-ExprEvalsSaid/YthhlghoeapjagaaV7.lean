/- The value logic, part 7: what a function is known to do; every operation. No program in sight. -/
import Derived.Test.YthhlghoeapjagaaV6
set_option linter.unusedVariables false
set_option linter.unusedSimpArgs false
namespace Go.Proofs.Ythhlghoeapjagaa
open Go.RowKit

/-- What is known of a function: from the arguments to the result and to the blocks that it makes or changes. -/
structure Spec (P : Program) (f : FuncId) where
  enter : ∀ (args : Array Value) (w : World), (callFunc f args).run P w = .ok (.enter f args) w
  run : Nat → Heap → List AV → Option Res
  mono : ∀ {id : Nat} {h h' : Heap} {args : List AV} {R : Res}, (∀ b k, hget h b = some k → hget h' b = some k) → run id h args = some R → run id h' args = some R
  sound : ∀ {id : Nat} {h : Heap} {args : List AV} {R : Res}, run id h args = some R → R.ob → ∀ {B : Nat} {w0 : World} {ρ : Nat → Loc} {al : Nat → Prop} {w : World} (vals : List Value), WRep B w0 ρ al h w → (∀ b, id ≤ b → b < id + 16 → ¬ al b) → AsRep ρ al args vals →
    Calls P f vals.toArray w fun e w' => ∃ v ρ', e = .returned v ∧ Ext ρ ρ' al (alW al id) ∧ ARep ρ' (alW al id) R.r v ∧ WRep B w0 ρ' (alW al id) (R.E ++ h) w'

abbrev Ctx (P : Program) := List ((f : FuncId) × Spec P f)

def crun {P : Program} : Ctx P → FuncId → Option (Nat → Heap → List AV → Option Res)
  | [], _ => none
  | ⟨g, s⟩ :: r, f => if g = f then some s.run else crun r f

theorem crun_some {P : Program} : ∀ {c : Ctx P} {f : FuncId} {run : Nat → Heap → List AV → Option Res}, crun c f = some run → ∃ s : Spec P f, s.run = run
  | [], _, _, h => by cases h
  | ⟨g, s⟩ :: r, f, run, h => by
    simp only [crun] at h
    split at h
    · rename_i e
      subst e
      injection h with h
      exact ⟨s, h⟩
    · exact crun_some h

def fldOf (P : Program) (t : TypeId) (f : Nat) : Option (Nat × Nat × Bool) :=
  match P.underlying t with
  | some (.struct fs) => match fs[f]? with
    | some x => match szOf P x.type, rowOf P x.type with
      | some s, some r => some (x.offset, s, r)
      | _, _ => none
    | none => none
  | _ => none

def aFld (P : Program) (t : TypeId) (x : AV) (f : Nat) : Option AV :=
  match x, fldOf P t f with
  | .s (.agg xs), some (o, s, true) => if o + s ≤ xs.length then some (.s (.agg ((xs.drop o).take s))) else none
  | .s (.agg xs), some (o, _, false) => match xs[o]? with
    | some y => some (.s (.l y))
    | none => none
  | _, _ => none

section
variable {P : Program} {ρ : Nat → Loc} {al : Nat → Prop}
theorem aFld_sound {t : TypeId} {x r : AV} {u : Value} (hx : ARep ρ al x u) {f : Nat} (hs : aFld P t x f = some r) (w : World) : ∃ v, (Instr.field t u f).run P w = .ok v w ∧ ARep ρ al r v := by
  unfold aFld at hs
  have key : ∀ {o s : Nat} {row : Bool}, fldOf P t f = some (o, s, row) → ∃ fs fl, P.underlying t = some (.struct fs) ∧ fs[f]? = some fl ∧ fl.offset = o ∧ szOf P fl.type = some s ∧ rowOf P fl.type = some row := by
    intro o s row h
    unfold fldOf at h
    split at h
    case h_2 => cases h
    rename_i fs hu
    split at h
    case h_2 => cases h
    rename_i fl hf
    split at h
    case h_2 => cases h
    rename_i s' r' h1 h2
    injection h with h
    injection h with e1 e2
    injection e2 with e2 e3
    exact ⟨fs, fl, hu, hf, e1, by rw [h1, e2], by rw [h2, e3]⟩
  split at hs
  · rename_i xs o s hf
    split at hs
    case isFalse => cases hs
    rename_i hl
    injection hs with hs
    subst hs
    obtain ⟨cs, rfl, hrep⟩ := hx
    obtain ⟨fs, fl, h1, h2, h3, h4, h5⟩ := key hf
    refine ⟨.agg (cs.toArray.extract o (o + s)), ?_, (cs.drop o).take s, by simp, (hrep.drop o).take s⟩
    simp [Instr.field, run_underlying h1, h2, asAgg, part, isAgg_true h5, szOf_run h4, h3]
  · rename_i xs o s hf
    split at hs
    case h_2 => cases hs
    rename_i y hy
    injection hs with hs
    subst hs
    obtain ⟨cs, rfl, hrep⟩ := hx
    obtain ⟨fs, fl, h1, h2, h3, h4, h5⟩ := key hf
    obtain ⟨v, g1, g2, g3⟩ := hrep.get o y hy
    refine ⟨v, ?_, g3⟩
    simp [Instr.field, run_underlying h1, h2, asAgg, part, isAgg_false h5, h3, g1]
  · cases hs
end

def aMin (b : Builtin) (x y : Value) : Option Value :=
  match b, x, y with
  | .min, .int k a, .int k' c => if k = k' then some (.int k (if c < a then c else a)) else none
  | .max, .int k a, .int k' c => if k = k' then some (.int k (if c > a then c else a)) else none
  | _, _, _ => none

noncomputable def aOp (P : Program) (ctx : Ctx P) (id : Nat) (o : Op) (ev : Operand → AV) (h : Heap) : Option Res :=
  match o with
  | .move x => some ⟨True, ev x, []⟩
  | .assign x => some ⟨True, ev x, []⟩
  | .pick c a b => match ev c with
    | .s (.l (.v (.bool true))) => some ⟨True, ev a, []⟩
    | .s (.l (.v (.bool false))) => some ⟨True, ev b, []⟩
    | _ => none
  | .load t x => aLoad P t (ev x) h
  | .store t x y => aStore P t (ev x) (ev y) h
  | .alloc t => match zeroOf P t with
    | some zs => some (aNew t id (zs.map .v))
    | none => none
  | .box t x => match cellsOf (ev x) with
    | some xs => some (aNew t id xs)
    | none => none
  | .build t ps => aBuild P t (ps.toList.map fun (i, x) => (i, ev x))
  | .buildSlice t n ps => aBuildSlice P t n (ps.toList.map fun (i, x) => (i, ev x)) id
  | .fieldAddr t x f => aField P t (ev x) f
  | .indexAddr t x ix => if fitsAt P t (ev x) h = true then aIndexAt P t (ev x) (ev ix) else none
  | .index t x ix => match aIndex P t (ev x) (ev ix) with
    | some (ob, r) => some ⟨ob, r, []⟩
    | none => none
  | .slice t x lo hi mx => aSlice P t (ev x) (lo.map ev) (hi.map ev) (mx.map ev) h
  | .binOp op t x y _ => match flatOf (ev x), flatOf (ev y) with
    | some a, some b => match aBin P op t x y a b with
      | some (ob, v) => some ⟨ob, .s (.l (.v v)), []⟩
      | none => none
    | _, _ => none
  | .unOp op _ x => match flatOf (ev x) with
    | some a => match aUn op a with
      | some v => some ⟨True, .s (.l (.v v)), []⟩
      | none => none
    | none => none
  | .convert s d x => match flatOf (ev x) with
    | some a => match aConv P s d a with
      | some v => some ⟨True, .s (.l (.v v)), []⟩
      | none => aConvS P s d (ev x) h id
    | none => aConvS P s d (ev x) h id
  | .nilCheck x => match ev x with
    | .s (.l (.p b i j)) => some ⟨True, .s (.l (.p b i j)), []⟩
    | _ => none
  | .extract x n => match ev x with
    | .tup xs => match xs[n]? with
      | some a => some ⟨True, .s a, []⟩
      | none => none
    | _ => none
  | .field t x f => match aFld P t (ev x) f with
    | some r => some ⟨True, r, []⟩
    | none => none
  | .call c => match c.callee with
    | .builtin b => match c.args.toList, c.argTypes.toList with
      | [x], [t] => match b with
        | .len => match aLen P t (ev x) with
          | some v => some ⟨True, .s (.l (.v v)), []⟩
          | none => none
        | _ => none
      | [x, y], [t1, t2] => match b with
        | .append => aAppend P t1 t2 (ev x) (ev y) h id
        | .min => match flatOf (ev x), flatOf (ev y) with
          | some a, some b => match aMin .min a b with
            | some v => some ⟨True, .s (.l (.v v)), []⟩
            | none => none
          | _, _ => none
        | .max => match flatOf (ev x), flatOf (ev y) with
          | some a, some b => match aMin .max a b with
            | some v => some ⟨True, .s (.l (.v v)), []⟩
            | none => none
          | _, _ => none
        | _ => none
      | _, _ => none
    | .value f => match ev f with
      | .s (.l (.v (.func (.func g) first cap))) => if first.size = 0 ∧ cap.size = 0 then match crun ctx g with
        | some run => run id h (c.args.toList.map ev)
        | none => none
        else none
      | _ => none
    | _ => none
  | _ => none

section
variable {P : Program} {ctx : Ctx P} {B : Nat} {w0 : World} {ρ : Nat → Loc} {al : Nat → Prop} {h : Heap} {w : World}

theorem AsRep.map {ev : Operand → AV} {evr : Operand → Value} (hT : ∀ x, ARep ρ al (ev x) (evr x)) : ∀ l : List Operand, AsRep ρ al (l.map ev) (l.map evr)
  | [] => trivial
  | x :: l => ⟨hT x, AsRep.map hT l⟩

/-- an operation that is no call of a function -/
def Runs (P : Program) (B : Nat) (w0 : World) (ρ : Nat → Loc) (al : Nat → Prop) (id : Nat) (h : Heap) (w : World) (R : Res) (r : Result Next) : Prop :=
  ∃ n v w' ρ', r = .ok n w' ∧ (n = .value v ∨ (n = .skip ∧ v = undef)) ∧ Ext ρ ρ' al (alW al id) ∧ ARep ρ' (alW al id) R.r v ∧ WRep B w0 ρ' (alW al id) (R.E ++ h) w'

theorem alW_inl {id : Nat} : ∀ b, al b → alW al id b := fun _ hb => .inl hb

theorem Runs.pure (H : WRep B w0 ρ al h w) {id : Nat} {R : Res} {v : Value} (hr : ARep ρ al R.r v) (hE : R.E = []) : Runs P B w0 ρ al id h w R (.ok (.value v) w) :=
  ⟨_, v, w, ρ, rfl, .inl rfl, (Ext.refl _ _).lift alW_inl, hr.lift alW_inl, by rw [hE]; exact H.lift alW_inl⟩

theorem aOp_runs (H : WRep B w0 ρ al h w) {ev : Operand → AV} {a : Act} (hT : ∀ x, ARep ρ al (ev x) (a.eval x)) {id : Nat} (hid : ∀ b, id ≤ b → b < id + 16 → ¬ al b) {o : Oper} {R : Res} (hs : aOp P ctx id o.op ev h = some R) (hob : R.ob) :
    Runs P B w0 ρ al id h w R ((execOp a.eval o).run P w) ∨ ∃ g args vals, (execOp a.eval o).run P w = .ok (.enter g vals) w ∧ ∃ s : Spec P g, s.run id h args = some R ∧ ∃ vs : List Value, vals = vs.toArray ∧ AsRep ρ al args vs := by
  have h0 : ¬ al id := hid id (Nat.le_refl _) (by omega)
  have up : ∀ b, al1 al id b → alW al id b := al1_alW (Nat.le_refl _) (by omega)
  unfold aOp at hs
  split at hs
  · rename_i x ho
    injection hs with hs
    subst hs
    refine .inl ?_
    simp only [execOp, ho, Sem.run_pure]
    exact .pure H (hT x) rfl
  · rename_i x ho
    injection hs with hs
    subst hs
    refine .inl ?_
    simp only [execOp, ho, Sem.run_pure]
    exact .pure H (hT x) rfl
  · rename_i c x y ho
    have hc := hT c
    refine .inl ?_
    split at hs
    · rename_i e
      rw [e] at hc
      have : a.eval c = .bool true := hc
      injection hs with hs
      subst hs
      simp only [execOp, ho, this, asBool, Sem.run_bind, Sem.run_pure, Result.andThen_ok, if_true]
      exact .pure H (hT x) rfl
    · rename_i e
      rw [e] at hc
      have : a.eval c = .bool false := hc
      injection hs with hs
      subst hs
      simp only [execOp, ho, this, asBool, Sem.run_bind, Sem.run_pure, Result.andThen_ok, if_false, Bool.false_eq_true]
      exact .pure H (hT y) rfl
    · cases hs
  · rename_i t x ho
    obtain ⟨v, h1, h2, h3⟩ := aLoad_sound (P := P) H (hT x) hs
    refine .inl ?_
    simp only [execOp, ho, Sem.run_bind, h1, Result.andThen_ok, Sem.run_pure]
    exact .pure H h2 h3
  · rename_i t x y ho
    obtain ⟨w', h1, h2, h3⟩ := aStore_sound (P := P) H (hT x) (hT y) hs
    refine .inl ⟨.skip, undef, w', ρ, ?_, .inr ⟨rfl, rfl⟩, (Ext.refl _ _).lift alW_inl, by rw [h2]; trivial, h3.lift alW_inl⟩
    simp only [execOp, ho, Sem.run_bind, h1, Result.andThen_ok, Sem.run_pure]
  · rename_i t ho
    split at hs
    case h_2 => cases hs
    rename_i zs hz
    injection hs with hs
    subst hs
    obtain ⟨i, z, hi, hzz, hzl, hsz, hone⟩ := zeroOf_some hz
    obtain ⟨ad, w', ρ', g1, g2, g3, g4⟩ := newVar_sound (P := P) H h0 t (v := z) (xs := zs.map .v) (by rw [hzl]; exact zs_rep hone)
    refine .inl ⟨.value _, _, w', ρ', ?_, .inl rfl, g2.lift up, g3.lift up, g4.lift up⟩
    simp [execOp, ho, Instr.alloc, zeroValue, typeInfo, hi, hzz, g1]
  · rename_i t x ho
    split at hs
    case h_2 => cases hs
    rename_i xs hx
    injection hs with hs
    subst hs
    obtain ⟨ad, w', ρ', g1, g2, g3, g4⟩ := newVar_sound (P := P) H h0 t (cellsOf_rep (hT x) hx)
    refine .inl ⟨.value _, _, w', ρ', ?_, .inl rfl, g2.lift up, g3.lift up, g4.lift up⟩
    simp [execOp, ho, Instr.box, g1]
  · rename_i t ps ho
    obtain ⟨v, h1, h2, h3⟩ := aBuild_sound (P := P) hT hs w
    refine .inl ?_
    simp only [execOp, ho, Sem.run_bind, h1, Result.andThen_ok, Sem.run_pure]
    exact .pure H h2 h3
  · rename_i t n ps ho
    obtain ⟨v, w', ρ', g1, g2, g3, g4⟩ := aBuildSlice_sound (P := P) H hT h0 hs
    refine .inl ⟨.value v, v, w', ρ', ?_, .inl rfl, g2.lift up, g3.lift up, g4.lift up⟩
    simp only [execOp, ho, Sem.run_bind, g1, Result.andThen_ok, Sem.run_pure]
  · rename_i t x f ho
    obtain ⟨v, h1, h2, h3⟩ := aField_sound (P := P) (hT x) hs w
    refine .inl ?_
    simp only [execOp, ho, Sem.run_bind, h1, Result.andThen_ok, Sem.run_pure]
    exact .pure H h2 h3
  · rename_i t x ix ho
    split at hs
    case isFalse => cases hs
    rename_i hf
    obtain ⟨v, h1, h2, h3⟩ := aIndexAt_sound (P := P) H (hT x) (hT ix) hs hf hob
    refine .inl ?_
    simp only [execOp, ho, Sem.run_bind, h1, Result.andThen_ok, Sem.run_pure]
    exact .pure H h2 h3
  · rename_i t x ix ho
    split at hs
    case h_2 => cases hs
    rename_i ob r hix
    injection hs with hs
    subst hs
    obtain ⟨v, h1, h2⟩ := aIndex_sound (P := P) (hT x) (hT ix) hix hob w
    refine .inl ?_
    simp only [execOp, ho, Sem.run_bind, h1, Result.andThen_ok, Sem.run_pure]
    exact .pure H h2 rfl
  · rename_i t x lo hi mx ho
    have hopt : ∀ y : Option Operand, match y.map ev, y.map a.eval with | none, none => True | some p, some q => ARep ρ al p q | _, _ => False := by
      intro y
      cases y with
      | none => trivial
      | some y => exact hT y
    obtain ⟨v, h1, h2, h3⟩ := aSlice_sound (P := P) H (hT x) (hopt lo) (hopt hi) (hopt mx) hs hob
    refine .inl ?_
    simp only [execOp, ho, Sem.run_bind, h1, Result.andThen_ok, Sem.run_pure]
    exact .pure H h2 h3
  · rename_i op t x y yt ho
    split at hs
    case h_2 => cases hs
    rename_i p q hp hq
    split at hs
    case h_2 => cases hs
    rename_i ob v hb
    injection hs with hs
    subst hs
    have e1 := flatOf_rep hp (hT x)
    have e2 := flatOf_rep hq (hT y)
    obtain ⟨g1, g2, g3⟩ := aBin_sound hb hob w
    refine .inl ?_
    have : (execOp a.eval o).run P w = .ok (.value v) w := by
      simp only [execOp, ho, e1, e2]
      rw [Sem.run_bind, g1]; rfl
    rw [this]
    exact .pure H (show ARep ρ al (.s (.l (.v v))) v from rfl) rfl
  · rename_i op t x ho
    split at hs
    case h_2 => cases hs
    rename_i p hp
    split at hs
    case h_2 => cases hs
    rename_i v hb
    injection hs with hs
    subst hs
    have e1 := flatOf_rep hp (hT x)
    obtain ⟨g1, g2, g3⟩ := aUn_sound (P := P) hb w
    refine .inl ?_
    simp only [execOp, ho, e1, Sem.run_bind, g1, Result.andThen_ok, Sem.run_pure]
    exact .pure H (show ARep ρ al (.s (.l (.v v))) v from rfl) rfl
  · rename_i s d x ho
    have conv : aConvS P s d (ev x) h id = some R → Runs P B w0 ρ al id h w R ((execOp a.eval o).run P w) := by
      intro hs
      obtain ⟨v, w', ρ', g1, g2, g3, g4⟩ := aConvS_sound (P := P) H (hT x) h0 hs hob
      refine ⟨.value v, v, w', ρ', ?_, .inl rfl, g2.lift up, g3.lift up, g4.lift up⟩
      simp only [execOp, ho, Sem.run_bind, g1, Result.andThen_ok, Sem.run_pure]
    split at hs
    case h_2 => exact .inl (conv hs)
    rename_i p hp
    split at hs
    case h_2 => exact .inl (conv hs)
    rename_i v hb
    injection hs with hs
    subst hs
    have e1 := flatOf_rep hp (hT x)
    obtain ⟨g1, g2, g3⟩ := aConv_sound (P := P) hb w
    refine .inl ?_
    simp only [execOp, ho, e1, Sem.run_bind, g1, Result.andThen_ok, Sem.run_pure]
    exact .pure H (show ARep ρ al (.s (.l (.v v))) v from rfl) rfl
  · rename_i x ho
    have hx := hT x
    split at hs
    case h_2 => cases hs
    rename_i b i j e
    injection hs with hs
    subst hs
    rw [e] at hx
    have hx' := hx
    obtain ⟨_, hv⟩ := hx'
    refine .inl ?_
    simp only [execOp, ho, hv, Sem.run_pure]
    exact .pure H (hv ▸ hx) rfl
  · rename_i x n ho
    have hx := hT x
    split at hs
    case h_2 => cases hs
    rename_i xs e
    split at hs
    case h_2 => cases hs
    rename_i y hy
    injection hs with hs
    subst hs
    rw [e] at hx
    obtain ⟨cs, hv, hc⟩ := hx
    obtain ⟨v, g1, g2⟩ := hc.get n y hy
    refine .inl ?_
    simp only [execOp, ho, hv, Instr.extract, List.getElem?_toArray, g1, Sem.run_bind, Sem.run_pure, Result.andThen_ok]
    exact .pure H (show ARep ρ al (.s y) v from g2) rfl
  · rename_i t x f ho
    split at hs
    case h_2 => cases hs
    rename_i r hr
    injection hs with hs
    subst hs
    obtain ⟨v, g1, g2⟩ := aFld_sound (hT x) hr w
    refine .inl ?_
    simp only [execOp, ho, Sem.run_bind, g1, Result.andThen_ok, Sem.run_pure]
    exact .pure H g2 rfl
  · rename_i c ho
    obtain ⟨callee, args, argTypes⟩ := c
    simp only at hs
    split at hs
    · rename_i b
      split at hs
      · rename_i x t ha ht
        obtain rfl : args = #[x] := by rw [← Array.toList_inj]; exact ha
        obtain rfl : argTypes = #[t] := by rw [← Array.toList_inj]; exact ht
        split at hs
        case h_2 => cases hs
        split at hs
        case h_2 => cases hs
        rename_i v hv
        injection hs with hs
        subst hs
        obtain ⟨g1, g2⟩ := aLen_sound (P := P) (ty := o.type) (hT x) hv w
        refine .inl ?_
        simp only [execOp, ho, resolve, invoke, builtin, Sem.run_bind, Sem.run_pure, Result.andThen_ok, List.map_toArray, List.map_cons, List.map_nil, g1]
        exact .pure H g2 rfl
      · rename_i x y t1 t2 ha ht
        obtain rfl : args = #[x, y] := by rw [← Array.toList_inj]; exact ha
        obtain rfl : argTypes = #[t1, t2] := by rw [← Array.toList_inj]; exact ht
        split at hs
        · obtain ⟨z, w', ρ', g1, g2, g3, g4⟩ := aAppend_sound (P := P) (ty := o.type) H (hT x) (hT y) hid hs hob
          refine .inl ⟨.value z, z, w', ρ', ?_, .inl rfl, g2, g3, g4⟩
          simp only [execOp, ho, resolve, invoke, builtin, Sem.run_bind, Sem.run_pure, Result.andThen_ok, List.map_toArray, List.map_cons, List.map_nil, g1]
        · split at hs
          case h_2 => cases hs
          rename_i p q hp hq
          split at hs
          case h_2 => cases hs
          rename_i v hv
          injection hs with hs
          subst hs
          have e1 := flatOf_rep hp (hT x)
          have e2 := flatOf_rep hq (hT y)
          unfold aMin at hv
          split at hv
          · split at hv
            case isFalse => cases hv
            rename_i hk
            subst hk
            injection hv with hv
            subst hv
            refine .inl ?_
            simp only [execOp, ho, resolve, invoke, builtin, Sem.run_bind, Sem.run_pure, Result.andThen_ok, List.map_toArray, List.map_cons, List.map_nil, e1, e2, Builtin.min_, Builtin.min2, List.foldlM_cons, List.foldlM_nil]
            exact .pure H (show ARep ρ al (.s (.l (.v _))) _ from rfl) rfl
          · rename_i h1; cases h1
          · cases hv
        · split at hs
          case h_2 => cases hs
          rename_i p q hp hq
          split at hs
          case h_2 => cases hs
          rename_i v hv
          injection hs with hs
          subst hs
          have e1 := flatOf_rep hp (hT x)
          have e2 := flatOf_rep hq (hT y)
          unfold aMin at hv
          split at hv
          · rename_i h1; cases h1
          · split at hv
            case isFalse => cases hv
            rename_i hk
            subst hk
            injection hv with hv
            subst hv
            refine .inl ?_
            simp only [execOp, ho, resolve, invoke, builtin, Sem.run_bind, Sem.run_pure, Result.andThen_ok, List.map_toArray, List.map_cons, List.map_nil, e1, e2, Builtin.max_, Builtin.max2, List.foldlM_cons, List.foldlM_nil]
            exact .pure H (show ARep ρ al (.s (.l (.v _))) _ from rfl) rfl
          · cases hv
        · cases hs
      · cases hs
    · rename_i f
      have hf := hT f
      split at hs
      case h_2 => cases hs
      rename_i g first cap e
      rw [e] at hf
      split at hs
      case isFalse => cases hs
      rename_i hc
      obtain rfl : first = #[] := Array.eq_empty_of_size_eq_zero hc.1
      obtain rfl : cap = #[] := Array.eq_empty_of_size_eq_zero hc.2
      have hfv : a.eval f = .func (.func g) #[] #[] := hf
      split at hs
      case h_2 => cases hs
      rename_i run hrun
      obtain ⟨s, rfl⟩ := crun_some hrun
      refine .inr ⟨g, args.toList.map ev, (args.toList.map a.eval).toArray, ?_, s, hs, _, rfl, AsRep.map hT _⟩
      simp only [execOp, ho, resolve, Deferred.ofValue, hfv, invoke, Sem.run_bind, Sem.run_pure, Result.andThen_ok, Array.append_empty, Array.empty_append, s.enter]
      rw [show Array.map a.eval args = (List.map a.eval args.toList).toArray from by rw [← Array.toList_inj]; simp]
    · cases hs
  · cases hs

end

end Go.Proofs.Ythhlghoeapjagaa
