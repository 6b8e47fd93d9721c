/- The value logic with lasting memory, part 7: what a function is known to do; every operation. No program in sight. -/
import Derived.Test.YtcdbldakjepjiaaDoorU6
set_option linter.unusedVariables false
set_option linter.unusedSimpArgs false
namespace Go.Proofs.YtcdbldakjepjiaaDoor
open Go.RowKit

/-- What is known of a function: from the arguments to the result and to the blocks that it makes or changes. -/
structure Spec (P : Program) (f : FuncId) where
  pan : Nat → Heap → List AV → Option (Prop × Value × Heap) := fun _ _ _ => none
  enter : ∀ (args : Array Value) (w : World), (callFunc f args).run P w = .ok (.enter f args) w
  run : Nat → Heap → List AV → Option Res
  mono : ∀ {id : Nat} {h h' : Heap} {args : List AV} {R : Res}, (∀ b k, hget h b = some k → hget h' b = some k) → run id h args = some R → run id h' args = some R
  sound : ∀ {id : Nat} {h : Heap} {args : List AV} {R : Res}, run id h args = some R → R.ob → ∀ {B : Base} {w0 : World} {ρ : Nat → Loc} {al : Al} {w : World} (vals : List Value), WRep B w0 ρ al h w → (∀ b, id ≤ b → b < id + 16 → ¬ al b) → AsRep ρ al args vals →
    Calls P f vals.toArray w fun e w' => ∃ v ρ' al', e = .returned v ∧ Ext ρ ρ' al al' ∧ (∀ b, al' b → alW al id b) ∧ ARep ρ' al' R.r v ∧ WRep B w0 ρ' al' (R.E ++ h) w'
  psound : ∀ {id : Nat} {h : Heap} {args : List AV} {ob : Prop} {x : Value} {E : Heap}, pan id h args = some (ob, x, E) → ob → ∀ {B : Base} {w0 : World} {ρ : Nat → Loc} {al : Al} {w : World} (vals : List Value), WRep B w0 ρ al h w → (∀ b, id ≤ b → b < id + 16 → ¬ al b) → AsRep ρ al args vals →
    Calls P f vals.toArray w fun e w' => ∃ ρ' al', e = .panicked [{ v := x, recovered := false }] ∧ Ext ρ ρ' al al' ∧ (∀ b, al' b → alW al id b) ∧ WRep B w0 ρ' al' (E ++ h) w' := by intro _ _ _ _ _ _ hp; cases hp

abbrev Ctx (P : Program) := List ((f : FuncId) × Spec P f)

def crun {P : Program} : Ctx P → FuncId → Option (Nat → Heap → List AV → Option Res)
  | [], _ => none
  | ⟨g, s⟩ :: r, f => if g = f then some s.run else crun r f

theorem crun_some {P : Program} : ∀ {c : Ctx P} {f : FuncId} {run : Nat → Heap → List AV → Option Res}, crun c f = some run → ∃ s : Spec P f, s.run = run
  | [], _, _, h => by cases h
  | ⟨g, s⟩ :: r, f, run, h => by
    simp only [crun] at h
    split at h
    · rename_i e
      subst e
      injection h with h
      exact ⟨s, h⟩
    · exact crun_some h

def cpan {P : Program} : Ctx P → FuncId → Option (Nat → Heap → List AV → Option (Prop × Value × Heap))
  | [], _ => none
  | ⟨g, s⟩ :: r, f => if g = f then some s.pan else cpan r f

theorem cpan_some {P : Program} : ∀ {c : Ctx P} {f : FuncId} {pan : Nat → Heap → List AV → Option (Prop × Value × Heap)}, cpan c f = some pan → ∃ s : Spec P f, s.pan = pan
  | [], _, _, h => by cases h
  | ⟨g, s⟩ :: r, f, pan, h => by
    simp only [cpan] at h
    split at h
    · rename_i e
      subst e
      injection h with h
      exact ⟨s, h⟩
    · exact cpan_some h

/-- a function value: which function, what comes ahead of the arguments, what behind -/
def calleeOf : AV → Option (FuncId × List AV × List AV)
  | .s (.l (.v (.func (.func g) f c))) => some (g, f.toList.map fun x => .s (.l (.v x)), c.toList.map fun x => .s (.l (.v x)))
  | .s (.l (.d (.fn g f c))) => some (g, (ofDs f).map fun x => .s (.l x), (ofDs c).map fun x => .s (.l x))
  | .fn g f c => some (g, f.map fun x => .s (.l x), c.map fun x => .s (.l x))
  | _ => none

theorem asRep_v {ρ : Nat → Loc} {al : Al} : ∀ l : List Value, AsRep ρ al (l.map fun x => .s (.l (.v x))) l
  | [] => trivial
  | x :: l => ⟨rfl, asRep_v l⟩
theorem asRep_l {ρ : Nat → Loc} {al : Al} : ∀ {xs : List LV} {ys : List Value}, LsRep ρ al xs ys → AsRep ρ al (xs.map fun x => .s (.l x)) ys
  | [], [], _ => trivial
  | x :: xs, y :: ys, ⟨_, b, c⟩ => ⟨b, asRep_l c⟩
theorem asRep_append {ρ : Nat → Loc} {al : Al} : ∀ {xs : List AV} {ys : List Value} {xs' : List AV} {ys' : List Value}, AsRep ρ al xs ys → AsRep ρ al xs' ys' → AsRep ρ al (xs ++ xs') (ys ++ ys')
  | [], [], _, _, _, h => h
  | _ :: _, _ :: _, _, _, ⟨a, b⟩, h => ⟨a, asRep_append b h⟩

theorem calleeOf_rep {ρ : Nat → Loc} {al : Al} {x : AV} {g : FuncId} {f c : List AV} {y : Value} (h : calleeOf x = some (g, f, c)) (hr : ARep ρ al x y) :
    ∃ fs cs : List Value, y = .func (.func g) fs.toArray cs.toArray ∧ AsRep ρ al f fs ∧ AsRep ρ al c cs := by
  unfold calleeOf at h
  split at h
  · rename_i g' f' c'
    injection h with h
    injection h with e1 h
    injection h with e2 e3
    subst e1
    subst e2
    subst e3
    have : y = _ := hr
    exact ⟨f'.toList, c'.toList, by rw [this], asRep_v _, asRep_v _⟩
  · rename_i g' f' c'
    injection h with h
    injection h with e1 h
    injection h with e2 e3
    subst e1
    subst e2
    subst e3
    simp only [ARep, SRep, LRep, DRep] at hr
    obtain ⟨fs, cs, rfl, h1, h2⟩ := hr
    exact ⟨fs, cs, rfl, asRep_l (DsRep.ls rfl h1), asRep_l (DsRep.ls rfl h2)⟩
  · rename_i g' f' c'
    injection h with h
    injection h with e1 h
    injection h with e2 e3
    subst e1
    subst e2
    subst e3
    obtain ⟨fs, cs, rfl, h1, h2⟩ := hr
    exact ⟨fs, cs, rfl, asRep_l h1, asRep_l h2⟩
  · cases h

/-- slices, pointers, functions, interfaces -/
def kT (P : Program) (t : TypeId) : Nat :=
  match P.underlying t with
  | some (.slice _) => 1
  | some (.pointer _) => 2
  | some (.func _ _ _) => 3
  | some (.interface _) => 4
  | _ => 0

/-- a test against nil: under which condition, are they equal -/
def aNil (P : Program) (t : TypeId) (x y : AV) : Option (Prop × Bool) :=
  match y with
  | .s (.l (.v (.slice none 0 0))) => if kT P t = 1 then match x with
      | .s (.l (.sl _ _ n)) => some (0 < n, false)
      | .s (.l (.d (.sd _ els))) => some (els ≠ [], false)
      | .s (.l (.v (.slice none 0 0))) => some (True, true)
      | _ => none
    else none
  | .s (.l (.v (.pointer none))) => if kT P t = 2 then match x with
      | .s (.l (.p _ _ _)) => some (True, false)
      | .s (.l (.d (.pd _))) => some (True, false)
      | .s (.l (.v (.pointer none))) => some (True, true)
      | _ => none
    else none
  | .s (.l (.v .nilFunc)) => if kT P t = 3 then match x with
      | .fn _ _ _ => some (True, false)
      | .s (.l (.d (.fn _ _ _))) => some (True, false)
      | .s (.l (.v (.func _ _ _))) => some (True, false)
      | .s (.l (.v .nilFunc)) => some (True, true)
      | _ => none
    else none
  | .s (.l (.v .nilIface)) => if kT P t = 4 then match x with
      | .s (.l (.d (.ifc _ _))) => some (True, false)
      | .s (.l (.v (.iface _ _))) => some (True, false)
      | _ => none
    else none
  | _ => none

def aNilOp (op : BinOp) (b : Bool) : Option Bool :=
  match op with
  | .eql => some b
  | .neq => some (!b)
  | _ => none

theorem aNil_sound {P : Program} {B : Base} {w0 : World} {ρ : Nat → Loc} {al : Al} {h : Heap} {w : World} (H : WRep B w0 ρ al h w) {t : TypeId} {x y : AV} {u v : Value} (hx : ARep ρ al x u) (hy : ARep ρ al y v) {ob : Prop} {b : Bool} (hs : aNil P t x y = some (ob, b)) (hob : ob) {op : BinOp} {r : Bool} (hr : aNilOp op b = some r) (xo yo : Operand) :
    (do eqGuard op t xo yo u v; binOp op t u v : Sem Value).run P w = .ok (.bool r) w := by
  have fin : ∀ b', b' = b → binOp .eql t u v = (do pure (.bool (← Op.equal t u v))) → binOp .neq t u v = (do pure (.bool (!(← Op.equal t u v)))) → (∀ op', (eqGuard op' t xo yo u v).run P w = .ok () w) → (∀ d, (Op.equalIn (d + 1) t u v).run P w = .ok b' w) → (do eqGuard op t xo yo u v; binOp op t u v : Sem Value).run P w = .ok (.bool r) w := by
    intro b' hb h1 h2 h3 h4
    subst hb
    have h5 : (Op.equal t u v).run P w = .ok b' w := by
      unfold Op.equal
      rw [show Op.maxDepth = 9999 + 1 from rfl]
      exact h4 9999
    rw [Sem.run_bind, h3, Result.andThen_ok]
    unfold aNilOp at hr
    split at hr
    · injection hr with hr
      subst hr
      rw [h1, Sem.run_bind, h5]; rfl
    · injection hr with hr
      subst hr
      rw [h2, Sem.run_bind, h5]; rfl
    · cases hr
  unfold aNil at hs
  split at hs
  · have hv : v = .slice none 0 0 := hy
    subst hv
    split at hs
    case isFalse => cases hs
    rename_i hkt
    obtain ⟨e, hu⟩ : ∃ e, P.underlying t = some (.slice e) := by unfold kT at hkt; split at hkt <;> first | exact ⟨_, ‹_›⟩ | cases hkt
    split at hs
    · rename_i b0 i n
      injection hs with hs
      injection hs with h1 h2
      subst h1
      subst h2
      obtain ⟨_, A, rfl, hc, hA⟩ := hx
      have hA' := hA (by omega)
      subst hA'
      exact fin false rfl rfl rfl (fun op' => by cases op' <;> rfl) (fun d => by simp only [Op.equalIn, Sem.run_bind, run_underlying hu, Result.andThen_ok]; rfl)
    · rename_i sz els
      injection hs with hs
      injection hs with h1 h2
      subst h1
      subst h2
      simp only [ARep, SRep, LRep, DRep] at hx
      obtain ⟨A, cap, rfl, _, hA⟩ := hx
      obtain ⟨blk, off, rfl, _⟩ := hA hob
      exact fin false rfl rfl rfl (fun op' => by cases op' <;> rfl) (fun d => by simp only [Op.equalIn, Sem.run_bind, run_underlying hu, Result.andThen_ok]; rfl)
    · injection hs with hs
      injection hs with h1 h2
      subst h2
      have : u = .slice none 0 0 := hx
      subst this
      exact fin true rfl rfl rfl (fun op' => by cases op' <;> rfl) (fun d => by simp only [Op.equalIn, Sem.run_bind, run_underlying hu, Result.andThen_ok]; rfl)
    · cases hs
  · have hv : v = .pointer none := hy
    subst hv
    split at hs
    case isFalse => cases hs
    rename_i hkt
    obtain ⟨e, hu⟩ : ∃ e, P.underlying t = some (.pointer e) := by unfold kT at hkt; split at hkt <;> first | exact ⟨_, ‹_›⟩ | cases hkt
    split at hs
    · injection hs with hs
      injection hs with h1 h2
      subst h2
      obtain ⟨_, rfl⟩ := hx
      exact fin false rfl rfl rfl (fun op' => by cases op' <;> rfl) (fun d => by simp only [Op.equalIn, Sem.run_bind, run_underlying hu, Result.andThen_ok]; rfl)
    · injection hs with hs
      injection hs with h1 h2
      subst h2
      simp only [ARep, SRep, LRep, DRep] at hx
      obtain ⟨_, _, rfl, _⟩ := hx
      exact fin false rfl rfl rfl (fun op' => by cases op' <;> rfl) (fun d => by simp only [Op.equalIn, Sem.run_bind, run_underlying hu, Result.andThen_ok]; rfl)
    · injection hs with hs
      injection hs with h1 h2
      subst h2
      have : u = .pointer none := hx
      subst this
      exact fin true rfl rfl rfl (fun op' => by cases op' <;> rfl) (fun d => by simp only [Op.equalIn, Sem.run_bind, run_underlying hu, Result.andThen_ok]; rfl)
    · cases hs
  · have hv : v = .nilFunc := hy
    subst hv
    split at hs
    case isFalse => cases hs
    rename_i hkt
    obtain ⟨e1, e2, e3, hu⟩ : ∃ e1 e2 e3, P.underlying t = some (.func e1 e2 e3) := by unfold kT at hkt; split at hkt <;> first | exact ⟨_, _, _, ‹_›⟩ | cases hkt
    split at hs
    · injection hs with hs
      injection hs with h1 h2
      subst h2
      obtain ⟨_, _, rfl, _⟩ := hx
      exact fin false rfl rfl rfl (fun op' => by cases op' <;> rfl) (fun d => by simp only [Op.equalIn, Sem.run_bind, run_underlying hu, Result.andThen_ok]; rfl)
    · injection hs with hs
      injection hs with h1 h2
      subst h2
      simp only [ARep, SRep, LRep, DRep] at hx
      obtain ⟨_, _, rfl, _⟩ := hx
      exact fin false rfl rfl rfl (fun op' => by cases op' <;> rfl) (fun d => by simp only [Op.equalIn, Sem.run_bind, run_underlying hu, Result.andThen_ok]; rfl)
    · injection hs with hs
      injection hs with h1 h2
      subst h2
      have : u = _ := hx
      subst this
      exact fin false rfl rfl rfl (fun op' => by cases op' <;> rfl) (fun d => by simp only [Op.equalIn, Sem.run_bind, run_underlying hu, Result.andThen_ok]; rfl)
    · injection hs with hs
      injection hs with h1 h2
      subst h2
      have : u = _ := hx
      subst this
      exact fin true rfl rfl rfl (fun op' => by cases op' <;> rfl) (fun d => by simp only [Op.equalIn, Sem.run_bind, run_underlying hu, Result.andThen_ok]; rfl)
    · cases hs
  · have hv : v = .nilIface := hy
    subst hv
    split at hs
    case isFalse => cases hs
    rename_i hkt
    obtain ⟨e1, hu⟩ : ∃ e1, P.underlying t = some (.interface e1) := by unfold kT at hkt; split at hkt <;> first | exact ⟨_, ‹_›⟩ | cases hkt
    split at hs
    · injection hs with hs
      injection hs with h1 h2
      subst h2
      simp only [ARep, SRep, LRep, DRep] at hx
      obtain ⟨_, rfl, _⟩ := hx
      exact fin false rfl rfl rfl (fun op' => by cases op' <;> rfl) (fun d => by simp only [Op.equalIn, Sem.run_bind, run_underlying hu, Result.andThen_ok]; rfl)
    · injection hs with hs
      injection hs with h1 h2
      subst h2
      have : u = _ := hx
      subst this
      exact fin false rfl rfl rfl (fun op' => by cases op' <;> rfl) (fun d => by simp only [Op.equalIn, Sem.run_bind, run_underlying hu, Result.andThen_ok]; rfl)
    · cases hs
  · cases hs

/-- the one cell that a function catches -/
def oneOf : AV → Option LV
  | .s (.l x) => if x.one then some x else none
  | .fn g f c => match toDs0 f, toDs0 c with
    | some fd, some cd => some (.d (.fn g fd cd))
    | _, _ => none
  | _ => none

theorem oneOf_rep {ρ : Nat → Loc} {al : Al} {x : AV} {l : LV} {y : Value} (h : oneOf x = some l) (hr : ARep ρ al x y) : y.oneCell' = true ∧ LRep ρ al l y := by
  unfold oneOf at h
  split at h
  · split at h
    case isFalse => cases h
    rename_i h1
    injection h with h
    subst h
    exact ⟨LRep.one hr h1, hr⟩
  · split at h
    case h_2 => cases h
    rename_i fd cd h1 h2
    injection h with h
    subst h
    obtain ⟨fs, cs, rfl, g1, g2⟩ := hr
    refine ⟨rfl, ?_⟩
    simp only [LRep, DRep]
    exact ⟨fs, cs, rfl, toDs0_rep h1 g1, toDs0_rep h2 g2⟩
  · cases h

/-- the cells that a function catches -/
def caught : List AV → Option (List LV)
  | [] => some []
  | x :: r => match oneOf x, caught r with
    | some y, some l => some (y :: l)
    | _, _ => none

theorem caught_rep {ρ : Nat → Loc} {al : Al} {ev : Operand → AV} {evr : Operand → Value} (hT : ∀ x, ARep ρ al (ev x) (evr x)) : ∀ {l : List Operand} {ls : List LV}, caught (l.map ev) = some ls → LsRep ρ al ls (l.map evr)
  | [], ls, h => by injection h with h; subst h; trivial
  | x :: l, ls, h => by
    simp only [List.map_cons, caught] at h
    split at h
    case h_2 => cases h
    rename_i y r h1 h2
    injection h with h
    subst h
    obtain ⟨g1, g2⟩ := oneOf_rep h1 (hT x)
    exact ⟨g1, g2, caught_rep hT h2⟩

/-- a type that is no interface -/
def isConc (P : Program) (t : TypeId) : Bool :=
  match P.underlying t with
  | some (.interface _) => false
  | some _ => true
  | none => false

def fldOf (P : Program) (t : TypeId) (f : Nat) : Option (Nat × Nat × Bool) :=
  match P.underlying t with
  | some (.struct fs) => match fs[f]? with
    | some x => match szOf P x.type, rowOf P x.type with
      | some s, some r => some (x.offset, s, r)
      | _, _ => none
    | none => none
  | _ => none

def aFld (P : Program) (t : TypeId) (x : AV) (f : Nat) : Option AV :=
  match x, fldOf P t f with
  | .s (.agg xs), some (o, s, true) => if o + s ≤ xs.length then some (.s (.agg ((xs.drop o).take s))) else none
  | .s (.agg xs), some (o, _, false) => match xs[o]? with
    | some y => some (.s (.l y))
    | none => none
  | _, _ => none

section
variable {P : Program} {ρ : Nat → Loc} {al : Al}
theorem aFld_sound {t : TypeId} {x r : AV} {u : Value} (hx : ARep ρ al x u) {f : Nat} (hs : aFld P t x f = some r) (w : World) : ∃ v, (Instr.field t u f).run P w = .ok v w ∧ ARep ρ al r v := by
  unfold aFld at hs
  have key : ∀ {o s : Nat} {row : Bool}, fldOf P t f = some (o, s, row) → ∃ fs fl, P.underlying t = some (.struct fs) ∧ fs[f]? = some fl ∧ fl.offset = o ∧ szOf P fl.type = some s ∧ rowOf P fl.type = some row := by
    intro o s row h
    unfold fldOf at h
    split at h
    case h_2 => cases h
    rename_i fs hu
    split at h
    case h_2 => cases h
    rename_i fl hf
    split at h
    case h_2 => cases h
    rename_i s' r' h1 h2
    injection h with h
    injection h with e1 e2
    injection e2 with e2 e3
    exact ⟨fs, fl, hu, hf, e1, by rw [h1, e2], by rw [h2, e3]⟩
  split at hs
  · rename_i xs o s hf
    split at hs
    case isFalse => cases hs
    rename_i hl
    injection hs with hs
    subst hs
    obtain ⟨cs, rfl, hrep⟩ := hx
    obtain ⟨fs, fl, h1, h2, h3, h4, h5⟩ := key hf
    refine ⟨.agg (cs.toArray.extract o (o + s)), ?_, (cs.drop o).take s, by simp, (hrep.drop o).take s⟩
    simp [Instr.field, run_underlying h1, h2, asAgg, part, isAgg_true h5, szOf_run h4, h3]
  · rename_i xs o s hf
    split at hs
    case h_2 => cases hs
    rename_i y hy
    injection hs with hs
    subst hs
    obtain ⟨cs, rfl, hrep⟩ := hx
    obtain ⟨fs, fl, h1, h2, h3, h4, h5⟩ := key hf
    obtain ⟨v, g1, g2, g3⟩ := hrep.get o y hy
    refine ⟨v, ?_, g3⟩
    simp [Instr.field, run_underlying h1, h2, asAgg, part, isAgg_false h5, h3, g1]
  · cases hs
end

def aMin (b : Builtin) (x y : Value) : Option Value :=
  match b, x, y with
  | .min, .int k a, .int k' c => if k = k' then some (.int k (if c < a then c else a)) else none
  | .max, .int k a, .int k' c => if k = k' then some (.int k (if c > a then c else a)) else none
  | _, _, _ => none

/-- a value as an abstract one, cell by cell where it is made of parts -/
def svOf : Value → Option SV
  | .agg cs => if cs.toList.all (·.oneCell') then some (.agg (cs.toList.map .v)) else none
  | .tuple _ => none
  | v => some (.l (.v v))
theorem svOf_rep {ρ : Nat → Loc} {al : Al} {v : Value} {s : SV} (h : svOf v = some s) : SRep ρ al s v := by
  unfold svOf at h
  split at h
  · rename_i cs
    split at h
    · rename_i hc
      injection h with h
      subst h
      rw [List.all_eq_true] at hc
      exact ⟨cs.toList, by simp, zs_rep hc⟩
    · cases h
  · cases h
  · injection h with h
    subst h
    rfl

/-- the zero value of a type -/
def zsvOf (P : Program) (t : TypeId) : Option SV :=
  match P.info? t with
  | some i => match i.zero with
    | some z => svOf z
    | none => none
  | none => none

/-- what an interface holds, as a type that is none; with or without the second answer -/
def aAssert (P : Program) (t : TypeId) (ok : Bool) (x : AV) : Option AV :=
  match x with
  | .s (.l (.v (.iface u v))) => if isConc P t = true then
      if u = t then match svOf v with
        | some s => some (if ok then .tup [s, .l (.v (.bool true))] else .s s)
        | none => none
      else if ok then match zsvOf P t with
        | some s => some (.tup [s, .l (.v (.bool false))])
        | none => none
      else none
    else none
  | .s (.l (.v .nilIface)) => if isConc P t = true then
      if ok then match zsvOf P t with
        | some s => some (.tup [s, .l (.v (.bool false))])
        | none => none
      else none
    else none
  | _ => none

theorem zsvOf_run {P : Program} {t : TypeId} {s : SV} (h : zsvOf P t = some s) : ∃ z, (∀ w, (zeroValue t).run P w = .ok z w) ∧ svOf z = some s := by
  unfold zsvOf at h
  split at h
  case h_2 => cases h
  rename_i i hi
  split at h
  case h_2 => cases h
  rename_i z hz
  exact ⟨z, fun w => by simp [zeroValue, typeInfo, hi, hz], h⟩

theorem aAssert_sound {P : Program} {ρ : Nat → Loc} {al : Al} {t xT : TypeId} {ok : Bool} {x r : AV} {u : Value} (hx : ARep ρ al x u) (hs : aAssert P t ok x = some r) (w : World) :
    ∃ v, (Instr.typeAssert u xT t ok).run P w = .ok v w ∧ ARep ρ al r v := by
  have conc : isConc P t = true → ∃ d, P.underlying t = some d ∧ ∀ ms, d ≠ .interface ms := by
    intro hcc
    unfold isConc at hcc
    cases hd : P.underlying t with
    | none => rw [hd] at hcc; cases hcc
    | some d => exact ⟨d, rfl, fun ms e => by rw [hd, e] at hcc; cases hcc⟩
  unfold aAssert at hs
  split at hs
  · rename_i U v
    have hu : u = .iface U v := hx
    subst hu
    split at hs
    case isFalse => cases hs
    rename_i hcc
    obtain ⟨d, hd, hne⟩ := conc hcc
    split at hs
    · rename_i e
      subst e
      split at hs
      case h_2 => cases hs
      rename_i s hv
      injection hs with hs
      subst hs
      cases ok with
      | true =>
        refine ⟨.tuple #[v, .bool true], ?_, [v, .bool true], rfl, svOf_rep hv, rfl, trivial⟩
        simp only [Instr.typeAssert, Sem.run_bind, run_underlying hd, Result.andThen_ok]
        cases d <;> first | (simp; done) | exact absurd rfl (hne _)
      | false =>
        refine ⟨v, ?_, svOf_rep hv⟩
        simp only [Instr.typeAssert, Sem.run_bind, run_underlying hd, Result.andThen_ok]
        cases d <;> first | (simp; done) | exact absurd rfl (hne _)
    · rename_i hne2
      split at hs
      case isFalse => cases hs
      rename_i hok
      subst hok
      split at hs
      case h_2 => cases hs
      rename_i s hz
      injection hs with hs
      subst hs
      obtain ⟨z, g1, g2⟩ := zsvOf_run hz
      refine ⟨.tuple #[z, .bool false], ?_, [z, .bool false], rfl, svOf_rep g2, rfl, trivial⟩
      simp only [Instr.typeAssert, Sem.run_bind, run_underlying hd, Result.andThen_ok]
      cases d <;> first | (simp [hne2, g1]; done) | exact absurd rfl (hne _)
  · have hu : u = .nilIface := hx
    subst hu
    split at hs
    case isFalse => cases hs
    rename_i hcc
    obtain ⟨d, hd, hne⟩ := conc hcc
    split at hs
    case isFalse => cases hs
    rename_i hok
    subst hok
    split at hs
    case h_2 => cases hs
    rename_i s hz
    injection hs with hs
    subst hs
    obtain ⟨z, g1, g2⟩ := zsvOf_run hz
    refine ⟨.tuple #[z, .bool false], ?_, [z, .bool false], rfl, svOf_rep g2, rfl, trivial⟩
    simp only [Instr.typeAssert, Sem.run_bind, run_underlying hd, Result.andThen_ok]
    cases d <;> first | (simp [g1]; done) | exact absurd rfl (hne _)
  · cases hs

noncomputable def aOp (P : Program) (ctx : Ctx P) (id : Nat) (o : Op) (ev : Operand → AV) (h : Heap) : Option Res :=
  match o with
  | .move x => some ⟨True, ev x, []⟩
  | .assign x => some ⟨True, ev x, []⟩
  | .pick c a b => match ev c with
    | .s (.l (.v (.bool true))) => some ⟨True, ev a, []⟩
    | .s (.l (.v (.bool false))) => some ⟨True, ev b, []⟩
    | _ => none
  | .load t x => aLoad P t (ev x) h
  | .store t x y => aStore P t (ev x) (ev y) h
  | .alloc t => match zeroOf P t with
    | some zs => some (aNew t id (zs.map .v))
    | none => none
  | .box t x => match cellsOf (ev x) with
    | some xs => some (aNew t id xs)
    | none => none
  | .build t ps => aBuild P t (ps.toList.map fun (i, x) => (i, ev x))
  | .buildSlice t n ps => aBuildSlice P t n (ps.toList.map fun (i, x) => (i, ev x)) id
  | .makeSlice t x y => aMake P t (ev x) (ev y) id
  | .fieldAddr t x f => aField P t (ev x) f
  | .indexAddr t x ix => if fitsAt P t (ev x) h = true then aIndexAt P t (ev x) (ev ix) else none
  | .index t x ix => match aIndex P t (ev x) (ev ix) with
    | some (ob, r) => some ⟨ob, r, []⟩
    | none => none
  | .slice t x lo hi mx => aSlice P t (ev x) (lo.map ev) (hi.map ev) (mx.map ev) h
  | .binOp op t x y _ => match flatOf (ev x), flatOf (ev y) with
    | some a, some b => match aBin P op t x y a b with
      | some (ob, v) => some ⟨ob, .s (.l (.v v)), []⟩
      | none => none
    | _, _ => match aNil P t (ev x) (ev y) with
      | some (ob, b) => match aNilOp op b with
        | some r => some ⟨ob, .s (.l (.v (.bool r))), []⟩
        | none => none
      | none => none
  | .makeFunc (.func g) f c => match caught (f.toList.map ev), caught (c.toList.map ev) with
    | some fs, some cs => some ⟨True, .fn g fs cs, []⟩
    | _, _ => none
  | .makeInterface t x => if isConc P t = true then match flatOf (ev x) with
      | some v => some ⟨True, .s (.l (.v (.iface t v))), []⟩
      | none => match oneOf (ev x) with
        | some (.d d) => some ⟨True, .s (.l (.d (.ifc t d))), []⟩
        | _ => none
      else none
  | .unOp op _ x => match flatOf (ev x) with
    | some a => match aUn op a with
      | some v => some ⟨True, .s (.l (.v v)), []⟩
      | none => none
    | none => none
  | .convert s d x => match flatOf (ev x) with
    | some a => match aConv P s d a with
      | some v => some ⟨True, .s (.l (.v v)), []⟩
      | none => aConvS P s d (ev x) h id
    | none => aConvS P s d (ev x) h id
  | .nilCheck x => match ev x with
    | .s (.l (.p b i j)) => some ⟨True, .s (.l (.p b i j)), []⟩
    | _ => none
  | .extract x n => match ev x with
    | .tup xs => match xs[n]? with
      | some a => some ⟨True, .s a, []⟩
      | none => none
    | _ => none
  | .field t x f => match aFld P t (ev x) f with
    | some r => some ⟨True, r, []⟩
    | none => none
  | .typeAssert x _ t ok => match aAssert P t ok (ev x) with
    | some r => some ⟨True, r, []⟩
    | none => none
  | .call c => match c.callee with
    | .builtin b => match c.args.toList, c.argTypes.toList with
      | [x], [t] => match b with
        | .len => match aLen P t (ev x) with
          | some v => some ⟨True, .s (.l (.v v)), []⟩
          | none => none
        | _ => none
      | [x, y], [t1, t2] => match b with
        | .append => aAppend P t1 t2 (ev x) (ev y) h id
        | .min => match flatOf (ev x), flatOf (ev y) with
          | some a, some b => match aMin .min a b with
            | some v => some ⟨True, .s (.l (.v v)), []⟩
            | none => none
          | _, _ => none
        | .max => match flatOf (ev x), flatOf (ev y) with
          | some a, some b => match aMin .max a b with
            | some v => some ⟨True, .s (.l (.v v)), []⟩
            | none => none
          | _, _ => none
        | _ => none
      | _, _ => none
    | .value f => match calleeOf (ev f) with
      | some (g, first, cap) => match crun ctx g with
        | some run => run id h (first ++ c.args.toList.map ev ++ cap)
        | none => none
      | none => none
    | _ => none
  | _ => none

/-- an operation that panics -/
def aPan (P : Program) (ctx : Ctx P) (id : Nat) (o : Op) (ev : Operand → AV) (h : Heap) : Option (Prop × Value × Heap) :=
  match o with
  | .panic x => match ev x with
    | .s (.l (.v (.iface t v))) => some (True, .iface t v, [])
    | _ => none
  | .call c => match c.callee with
    | .value f => match calleeOf (ev f) with
      | some (g, first, cap) => match cpan ctx g with
        | some pan => pan id h (first ++ c.args.toList.map ev ++ cap)
        | none => none
      | none => none
    | _ => none
  | _ => none

section
variable {P : Program} {ctx : Ctx P} {B : Base} {w0 : World} {ρ : Nat → Loc} {al : Al} {h : Heap} {w : World}

theorem AsRep.map {ev : Operand → AV} {evr : Operand → Value} (hT : ∀ x, ARep ρ al (ev x) (evr x)) : ∀ l : List Operand, AsRep ρ al (l.map ev) (l.map evr)
  | [] => trivial
  | x :: l => ⟨hT x, AsRep.map hT l⟩

/-- an operation that is no call of a function -/
def Runs (P : Program) (B : Base) (w0 : World) (ρ : Nat → Loc) (al : Al) (id : Nat) (h : Heap) (w : World) (R : Res) (r : Result Next) : Prop :=
  ∃ n v w' ρ', r = .ok n w' ∧ (n = .value v ∨ (n = .skip ∧ v = undef)) ∧ Ext ρ ρ' al (alW al id) ∧ ARep ρ' (alW al id) R.r v ∧ WRep B w0 ρ' (alW al id) (R.E ++ h) w'

theorem ext_refl_lift {ρ : Nat → Loc} {al : Al} (id : Nat) : Ext ρ ρ al (alW al id) := ⟨fun _ _ => rfl, Mem.le_refl _, fun _ hb => .inl hb⟩

theorem alW_inl {id : Nat} : ∀ b, al b → alW al id b := fun _ hb => .inl hb

theorem Runs.pure (H : WRep B w0 ρ al h w) {id : Nat} {R : Res} {v : Value} (hr : ARep ρ al R.r v) (hE : R.E = []) : Runs P B w0 ρ al id h w R (.ok (.value v) w) :=
  ⟨_, v, w, ρ, rfl, .inl rfl, ext_refl_lift _, hr.lift alW_inl, by rw [hE]; exact H.lift alW_inl⟩

theorem call_run {a : Act} {o : Oper} {f : Operand} {args : Array Operand} {ts : Array TypeId} {g : FuncId} {fs cs : List Value} (ho : o.op = .call ⟨.value f, args, ts⟩) (hf : a.eval f = .func (.func g) fs.toArray cs.toArray)
    (hen : ∀ (args : Array Value) (w : World), (callFunc g args).run P w = .ok (.enter g args) w) : (execOp a.eval o).run P w = .ok (.enter g (fs ++ args.toList.map a.eval ++ cs).toArray) w := by
  simp only [execOp, ho, resolve, Deferred.ofValue, hf, invoke, Sem.run_bind, Sem.run_pure, Result.andThen_ok, hen]
  congr 2
  rw [← Array.toList_inj]
  simp

/-- an operation that panics, as it runs -/
theorem aPan_runs {ev : Operand → AV} {a : Act} (hT : ∀ x, ARep ρ al (ev x) (a.eval x)) {id : Nat} {o : Oper} {ob : Prop} {x : Value} {E : Heap} (hs : aPan P ctx id o.op ev h = some (ob, x, E)) :
    ((execOp a.eval o).run P w = .halt (.panic x) w ∧ E = []) ∨ ∃ g args vals, (execOp a.eval o).run P w = .ok (.enter g vals) w ∧ ∃ s : Spec P g, s.pan id h args = some (ob, x, E) ∧ ∃ vs : List Value, vals = vs.toArray ∧ AsRep ρ al args vs := by
  unfold aPan at hs
  split at hs
  · rename_i y ho
    split at hs
    case h_2 => cases hs
    rename_i t v e
    injection hs with hs
    injection hs with h1 hs
    injection hs with h2 h3
    subst h2
    subst h3
    have hy := hT y
    rw [e] at hy
    have hv : a.eval y = .iface t v := hy
    refine .inl ⟨?_, rfl⟩
    simp [execOp, ho, hv, Instr.panic]
  · rename_i c ho
    obtain ⟨callee, args, argTypes⟩ := c
    simp only at hs
    split at hs
    case h_2 => cases hs
    rename_i f
    split at hs
    case h_2 => cases hs
    rename_i g first cap e
    obtain ⟨fs, cs, hfv, h1, h2⟩ := calleeOf_rep e (hT f)
    split at hs
    case h_2 => cases hs
    rename_i pan hpan
    obtain ⟨s, rfl⟩ := cpan_some hpan
    exact .inr ⟨g, first ++ args.toList.map ev ++ cap, (fs ++ args.toList.map a.eval ++ cs).toArray, call_run (o := o) (by rw [ho]) hfv s.enter, s, hs, _, rfl, asRep_append (asRep_append h1 (AsRep.map hT _)) h2⟩
  · cases hs

theorem aOp_runs (H : WRep B w0 ρ al h w) {ev : Operand → AV} {a : Act} (hT : ∀ x, ARep ρ al (ev x) (a.eval x)) {id : Nat} (hid : ∀ b, id ≤ b → b < id + 16 → ¬ al b) {o : Oper} {R : Res} (hs : aOp P ctx id o.op ev h = some R) (hob : R.ob) :
    Runs P B w0 ρ al id h w R ((execOp a.eval o).run P w) ∨ ∃ g args vals, (execOp a.eval o).run P w = .ok (.enter g vals) w ∧ ∃ s : Spec P g, s.run id h args = some R ∧ ∃ vs : List Value, vals = vs.toArray ∧ AsRep ρ al args vs := by
  have h0 : ¬ al id := hid id (Nat.le_refl _) (by omega)
  have up : ∀ b, al1 al id b → alW al id b := al1_alW (Nat.le_refl _) (by omega)
  unfold aOp at hs
  split at hs
  · rename_i x ho
    injection hs with hs
    subst hs
    refine .inl ?_
    simp only [execOp, ho, Sem.run_pure]
    exact .pure H (hT x) rfl
  · rename_i x ho
    injection hs with hs
    subst hs
    refine .inl ?_
    simp only [execOp, ho, Sem.run_pure]
    exact .pure H (hT x) rfl
  · rename_i c x y ho
    have hc := hT c
    refine .inl ?_
    split at hs
    · rename_i e
      rw [e] at hc
      have : a.eval c = .bool true := hc
      injection hs with hs
      subst hs
      simp only [execOp, ho, this, asBool, Sem.run_bind, Sem.run_pure, Result.andThen_ok, if_true]
      exact .pure H (hT x) rfl
    · rename_i e
      rw [e] at hc
      have : a.eval c = .bool false := hc
      injection hs with hs
      subst hs
      simp only [execOp, ho, this, asBool, Sem.run_bind, Sem.run_pure, Result.andThen_ok, if_false, Bool.false_eq_true]
      exact .pure H (hT y) rfl
    · cases hs
  · rename_i t x ho
    obtain ⟨v, h1, h2, h3⟩ := aLoad_sound (P := P) H (hT x) hs
    refine .inl ?_
    simp only [execOp, ho, Sem.run_bind, h1, Result.andThen_ok, Sem.run_pure]
    exact .pure H h2 h3
  · rename_i t x y ho
    obtain ⟨w', h1, h2, h3⟩ := aStore_sound (P := P) H (hT x) (hT y) hs
    refine .inl ⟨.skip, undef, w', ρ, ?_, .inr ⟨rfl, rfl⟩, ext_refl_lift _, by rw [h2]; trivial, h3.lift alW_inl⟩
    simp only [execOp, ho, Sem.run_bind, h1, Result.andThen_ok, Sem.run_pure]
  · rename_i t ho
    split at hs
    case h_2 => cases hs
    rename_i zs hz
    injection hs with hs
    subst hs
    obtain ⟨i, z, hi, hzz, hzl, hsz, hone⟩ := zeroOf_some hz
    obtain ⟨ad, w', ρ', g1, g2, g3, g4⟩ := newVar_sound (P := P) H h0 t (v := z) (xs := zs.map .v) (by rw [hzl]; exact zs_rep hone)
    refine .inl ⟨.value _, _, w', ρ', ?_, .inl rfl, g2.lift up, g3.lift up, g4.lift up⟩
    simp [execOp, ho, Instr.alloc, zeroValue, typeInfo, hi, hzz, g1]
  · rename_i t x ho
    split at hs
    case h_2 => cases hs
    rename_i xs hx
    injection hs with hs
    subst hs
    obtain ⟨ad, w', ρ', g1, g2, g3, g4⟩ := newVar_sound (P := P) H h0 t (cellsOf_rep (hT x) hx)
    refine .inl ⟨.value _, _, w', ρ', ?_, .inl rfl, g2.lift up, g3.lift up, g4.lift up⟩
    simp [execOp, ho, Instr.box, g1]
  · rename_i t ps ho
    obtain ⟨v, h1, h2, h3⟩ := aBuild_sound (P := P) hT hs w
    refine .inl ?_
    simp only [execOp, ho, Sem.run_bind, h1, Result.andThen_ok, Sem.run_pure]
    exact .pure H h2 h3
  · rename_i t n ps ho
    obtain ⟨v, w', ρ', g1, g2, g3, g4⟩ := aBuildSlice_sound (P := P) H hT h0 hs
    refine .inl ⟨.value v, v, w', ρ', ?_, .inl rfl, g2.lift up, g3.lift up, g4.lift up⟩
    simp only [execOp, ho, Sem.run_bind, g1, Result.andThen_ok, Sem.run_pure]
  · rename_i t x y ho
    obtain ⟨v, w', ρ', g1, g2, g3, g4⟩ := aMake_sound (P := P) H (hT x) (hT y) h0 hs hob
    refine .inl ⟨.value v, v, w', ρ', ?_, .inl rfl, g2.lift up, g3.lift up, g4.lift up⟩
    simp only [execOp, ho, Sem.run_bind, g1, Result.andThen_ok, Sem.run_pure]
  · rename_i t x f ho
    obtain ⟨v, h1, h2, h3⟩ := aField_sound (P := P) (hT x) hs w
    refine .inl ?_
    simp only [execOp, ho, Sem.run_bind, h1, Result.andThen_ok, Sem.run_pure]
    exact .pure H h2 h3
  · rename_i t x ix ho
    split at hs
    case isFalse => cases hs
    rename_i hf
    obtain ⟨v, h1, h2, h3⟩ := aIndexAt_sound (P := P) H (hT x) (hT ix) hs hf hob
    refine .inl ?_
    simp only [execOp, ho, Sem.run_bind, h1, Result.andThen_ok, Sem.run_pure]
    exact .pure H h2 h3
  · rename_i t x ix ho
    split at hs
    case h_2 => cases hs
    rename_i ob r hix
    injection hs with hs
    subst hs
    obtain ⟨v, h1, h2⟩ := aIndex_sound (P := P) (hT x) (hT ix) hix hob w
    refine .inl ?_
    simp only [execOp, ho, Sem.run_bind, h1, Result.andThen_ok, Sem.run_pure]
    exact .pure H h2 rfl
  · rename_i t x lo hi mx ho
    have hopt : ∀ y : Option Operand, match y.map ev, y.map a.eval with | none, none => True | some p, some q => ARep ρ al p q | _, _ => False := by
      intro y
      cases y with
      | none => trivial
      | some y => exact hT y
    obtain ⟨v, h1, h2, h3⟩ := aSlice_sound (P := P) H (hT x) (hopt lo) (hopt hi) (hopt mx) hs hob
    refine .inl ?_
    simp only [execOp, ho, Sem.run_bind, h1, Result.andThen_ok, Sem.run_pure]
    exact .pure H h2 h3
  · rename_i op t x y yt ho
    split at hs
    · rename_i p q hp hq
      split at hs
      case h_2 => cases hs
      rename_i ob v hb
      injection hs with hs
      subst hs
      have e1 := flatOf_rep hp (hT x)
      have e2 := flatOf_rep hq (hT y)
      obtain ⟨g1, g2, g3⟩ := aBin_sound hb hob w
      refine .inl ?_
      have : (execOp a.eval o).run P w = .ok (.value v) w := by
        simp only [execOp, ho, e1, e2]
        rw [Sem.run_bind, g1]; rfl
      rw [this]
      exact .pure H (show ARep ρ al (.s (.l (.v v))) v from rfl) rfl
    · split at hs
      case h_2 => cases hs
      rename_i ob b hb
      split at hs
      case h_2 => cases hs
      rename_i r hr
      injection hs with hs
      subst hs
      have g1 := aNil_sound H (hT x) (hT y) hb hob hr x y
      refine .inl ?_
      have : (execOp a.eval o).run P w = .ok (.value (.bool r)) w := by
        simp only [execOp, ho]
        rw [Sem.run_bind, g1]; rfl
      rw [this]
      exact .pure H (show ARep ρ al (.s (.l (.v (.bool r)))) (.bool r) from rfl) rfl
  · rename_i g f c ho
    split at hs
    case h_2 => cases hs
    rename_i fs cs hf hc
    injection hs with hs
    subst hs
    refine .inl ?_
    have : (execOp a.eval o).run P w = .ok (.value (.func (.func g) (f.map a.eval) (c.map a.eval))) w := by
      simp only [execOp, ho, Instr.makeFunc, Sem.run_bind, Sem.run_pure, Result.andThen_ok]
    rw [this]
    refine .pure H ⟨f.toList.map a.eval, c.toList.map a.eval, ?_, caught_rep hT hf, caught_rep hT hc⟩ rfl
    congr 1 <;> (rw [← Array.toList_inj]; simp)
  · rename_i t x ho
    split at hs
    case isFalse => cases hs
    rename_i hcc
    have hu : ∃ d, P.underlying t = some d ∧ ∀ ms, d ≠ .interface ms := by
      unfold isConc at hcc
      cases hd : P.underlying t with
      | none => rw [hd] at hcc; cases hcc
      | some d => exact ⟨d, rfl, fun ms e => by rw [hd, e] at hcc; cases hcc⟩
    obtain ⟨d, hd, hne⟩ := hu
    have hrun : (execOp a.eval o).run P w = .ok (.value (.iface t (a.eval x))) w := by
      simp only [execOp, ho, Instr.makeInterface, Sem.run_bind, run_underlying hd, Result.andThen_ok]
      cases d <;> first | rfl | exact absurd rfl (hne _)
    refine .inl ?_
    rw [hrun]
    split at hs
    · rename_i v hv
      injection hs with hs
      subst hs
      rw [flatOf_rep hv (hT x)]
      exact .pure H (show ARep ρ al (.s (.l (.v (.iface t v)))) _ from rfl) rfl
    · split at hs
      · rename_i dd hdd
        injection hs with hs
        subst hs
        refine .pure H ?_ rfl
        obtain ⟨_, g2⟩ := oneOf_rep hdd (hT x)
        simp only [ARep, SRep, LRep, DRep] at g2 ⊢
        exact ⟨_, rfl, g2⟩
      · cases hs
  · rename_i op t x ho
    split at hs
    case h_2 => cases hs
    rename_i p hp
    split at hs
    case h_2 => cases hs
    rename_i v hb
    injection hs with hs
    subst hs
    have e1 := flatOf_rep hp (hT x)
    obtain ⟨g1, g2, g3⟩ := aUn_sound (P := P) hb w
    refine .inl ?_
    simp only [execOp, ho, e1, Sem.run_bind, g1, Result.andThen_ok, Sem.run_pure]
    exact .pure H (show ARep ρ al (.s (.l (.v v))) v from rfl) rfl
  · rename_i s d x ho
    have conv : aConvS P s d (ev x) h id = some R → Runs P B w0 ρ al id h w R ((execOp a.eval o).run P w) := by
      intro hs
      obtain ⟨v, w', ρ', g1, g2, g3, g4⟩ := aConvS_sound (P := P) H (hT x) h0 hs hob
      refine ⟨.value v, v, w', ρ', ?_, .inl rfl, g2.lift up, g3.lift up, g4.lift up⟩
      simp only [execOp, ho, Sem.run_bind, g1, Result.andThen_ok, Sem.run_pure]
    split at hs
    case h_2 => exact .inl (conv hs)
    rename_i p hp
    split at hs
    case h_2 => exact .inl (conv hs)
    rename_i v hb
    injection hs with hs
    subst hs
    have e1 := flatOf_rep hp (hT x)
    obtain ⟨g1, g2, g3⟩ := aConv_sound (P := P) hb w
    refine .inl ?_
    simp only [execOp, ho, e1, Sem.run_bind, g1, Result.andThen_ok, Sem.run_pure]
    exact .pure H (show ARep ρ al (.s (.l (.v v))) v from rfl) rfl
  · rename_i x ho
    have hx := hT x
    split at hs
    case h_2 => cases hs
    rename_i b i j e
    injection hs with hs
    subst hs
    rw [e] at hx
    have hx' := hx
    obtain ⟨_, hv⟩ := hx'
    refine .inl ?_
    simp only [execOp, ho, hv, Sem.run_pure]
    exact .pure H (hv ▸ hx) rfl
  · rename_i x n ho
    have hx := hT x
    split at hs
    case h_2 => cases hs
    rename_i xs e
    split at hs
    case h_2 => cases hs
    rename_i y hy
    injection hs with hs
    subst hs
    rw [e] at hx
    obtain ⟨cs, hv, hc⟩ := hx
    obtain ⟨v, g1, g2⟩ := hc.get n y hy
    refine .inl ?_
    simp only [execOp, ho, hv, Instr.extract, List.getElem?_toArray, g1, Sem.run_bind, Sem.run_pure, Result.andThen_ok]
    exact .pure H (show ARep ρ al (.s y) v from g2) rfl
  · rename_i t x f ho
    split at hs
    case h_2 => cases hs
    rename_i r hr
    injection hs with hs
    subst hs
    obtain ⟨v, g1, g2⟩ := aFld_sound (hT x) hr w
    refine .inl ?_
    simp only [execOp, ho, Sem.run_bind, g1, Result.andThen_ok, Sem.run_pure]
    exact .pure H g2 rfl
  · rename_i x xT t ok ho
    split at hs
    case h_2 => cases hs
    rename_i r hr
    injection hs with hs
    subst hs
    obtain ⟨v, g1, g2⟩ := aAssert_sound (xT := xT) (hT x) hr w
    refine .inl ?_
    simp only [execOp, ho, Sem.run_bind, g1, Result.andThen_ok, Sem.run_pure]
    exact .pure H g2 rfl
  · rename_i c ho
    obtain ⟨callee, args, argTypes⟩ := c
    simp only at hs
    split at hs
    · rename_i b
      split at hs
      · rename_i x t ha ht
        obtain rfl : args = #[x] := by rw [← Array.toList_inj]; exact ha
        obtain rfl : argTypes = #[t] := by rw [← Array.toList_inj]; exact ht
        split at hs
        case h_2 => cases hs
        split at hs
        case h_2 => cases hs
        rename_i v hv
        injection hs with hs
        subst hs
        obtain ⟨g1, g2⟩ := aLen_sound (P := P) (ty := o.type) (hT x) hv w
        refine .inl ?_
        simp only [execOp, ho, resolve, invoke, builtin, Sem.run_bind, Sem.run_pure, Result.andThen_ok, List.map_toArray, List.map_cons, List.map_nil, g1]
        exact .pure H g2 rfl
      · rename_i x y t1 t2 ha ht
        obtain rfl : args = #[x, y] := by rw [← Array.toList_inj]; exact ha
        obtain rfl : argTypes = #[t1, t2] := by rw [← Array.toList_inj]; exact ht
        split at hs
        · obtain ⟨z, w', ρ', g1, g2, g3, g4⟩ := aAppend_sound (P := P) (ty := o.type) H (hT x) (hT y) hid hs hob
          refine .inl ⟨.value z, z, w', ρ', ?_, .inl rfl, g2, g3, g4⟩
          simp only [execOp, ho, resolve, invoke, builtin, Sem.run_bind, Sem.run_pure, Result.andThen_ok, List.map_toArray, List.map_cons, List.map_nil, g1]
        · split at hs
          case h_2 => cases hs
          rename_i p q hp hq
          split at hs
          case h_2 => cases hs
          rename_i v hv
          injection hs with hs
          subst hs
          have e1 := flatOf_rep hp (hT x)
          have e2 := flatOf_rep hq (hT y)
          unfold aMin at hv
          split at hv
          · split at hv
            case isFalse => cases hv
            rename_i hk
            subst hk
            injection hv with hv
            subst hv
            refine .inl ?_
            simp only [execOp, ho, resolve, invoke, builtin, Sem.run_bind, Sem.run_pure, Result.andThen_ok, List.map_toArray, List.map_cons, List.map_nil, e1, e2, Builtin.min_, Builtin.min2, List.foldlM_cons, List.foldlM_nil]
            exact .pure H (show ARep ρ al (.s (.l (.v _))) _ from rfl) rfl
          · rename_i h1; cases h1
          · cases hv
        · split at hs
          case h_2 => cases hs
          rename_i p q hp hq
          split at hs
          case h_2 => cases hs
          rename_i v hv
          injection hs with hs
          subst hs
          have e1 := flatOf_rep hp (hT x)
          have e2 := flatOf_rep hq (hT y)
          unfold aMin at hv
          split at hv
          · rename_i h1; cases h1
          · split at hv
            case isFalse => cases hv
            rename_i hk
            subst hk
            injection hv with hv
            subst hv
            refine .inl ?_
            simp only [execOp, ho, resolve, invoke, builtin, Sem.run_bind, Sem.run_pure, Result.andThen_ok, List.map_toArray, List.map_cons, List.map_nil, e1, e2, Builtin.max_, Builtin.max2, List.foldlM_cons, List.foldlM_nil]
            exact .pure H (show ARep ρ al (.s (.l (.v _))) _ from rfl) rfl
          · cases hv
        · cases hs
      · cases hs
    · rename_i f
      split at hs
      case h_2 => cases hs
      rename_i g first cap e
      obtain ⟨fs, cs, hfv, h1, h2⟩ := calleeOf_rep e (hT f)
      split at hs
      case h_2 => cases hs
      rename_i run hrun
      obtain ⟨s, rfl⟩ := crun_some hrun
      exact .inr ⟨g, first ++ args.toList.map ev ++ cap, (fs ++ args.toList.map a.eval ++ cs).toArray, call_run (o := o) (by rw [ho]) hfv s.enter, s, hs, _, rfl, asRep_append (asRep_append h1 (AsRep.map hT _)) h2⟩
    · cases hs
  · cases hs

end

end Go.Proofs.YtcdbldakjepjiaaDoor
