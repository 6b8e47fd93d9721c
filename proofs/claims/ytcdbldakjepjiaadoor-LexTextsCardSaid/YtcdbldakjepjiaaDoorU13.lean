/- The value logic with lasting memory, part 13: how arguments are read; functions of one to five arguments. No program in sight. -/
import Derived.Test.YtcdbldakjepjiaaDoorU12
set_option linter.unusedVariables false
set_option linter.unusedSimpArgs false
namespace Go.Proofs.YtcdbldakjepjiaaDoor
open Go.RowKit

/-- How values of a kind are read off an abstract value, and back. -/
structure Ty (α : Type) where
  dec : AV → Option α
  enc : α → AV
  ok : ∀ {A : AV} {x : α}, dec A = some x → ∀ {ρ : Nat → Loc} {al : Al} {v : Value}, ARep ρ al A v → ARep ρ al (enc x) v

/-- How the cells of an element are read, and back. -/
structure RowTy (α : Type) where
  dec : List D → Option α
  enc : α → List D
  inv : ∀ {c : List D} {x : α}, dec c = some x → c = enc x
  back : ∀ x : α, dec (enc x) = some x

def tInt (k : IntKind) : Ty Int where
  dec := fun | .s (.l (.v (.int k' z))) => if k' = k then some z else none | _ => none
  enc := fun z => .s (.l (.v (.int k z)))
  ok := by
    intro A x h ρ al v hr
    split at h
    · split at h
      · rename_i e; injection h with h; subst h; subst e; exact hr
      · cases h
    · cases h
def tBool : Ty Bool where
  dec := fun | .s (.l (.v (.bool b))) => some b | _ => none
  enc := fun b => .s (.l (.v (.bool b)))
  ok := by
    intro A x h ρ al v hr
    split at h
    · injection h with h; subst h; exact hr
    · cases h
def tStr : Ty ByteArray where
  dec := fun | .s (.l (.v (.string s))) => some s | _ => none
  enc := fun s => .s (.l (.v (.string s)))
  ok := by
    intro A x h ρ al v hr
    split at h
    · injection h with h; subst h; exact hr
    · cases h
/-- a function that catches nothing -/
def tFn : Ty FuncId where
  dec := fun | .s (.l (.v (.func (.func g) ⟨[]⟩ ⟨[]⟩))) => some g | .fn g [] [] => some g | .s (.l (.d (.fn g [] []))) => some g | _ => none
  enc := fun g => .s (.l (.v (.func (.func g) #[] #[])))
  ok := by
    intro A x h ρ al v hr
    split at h
    · injection h with h; subst h; exact hr
    · injection h with h; subst h
      obtain ⟨fs, cs, rfl, h1, h2⟩ := hr
      cases fs with
      | nil => cases cs with
        | nil => rfl
        | cons _ _ => exact h2.elim
      | cons _ _ => exact h1.elim
    · injection h with h; subst h
      simp only [ARep, SRep, LRep, DRep] at hr
      obtain ⟨fs, cs, rfl, h1, h2⟩ := hr
      cases fs with
      | nil => cases cs with
        | nil => rfl
        | cons _ _ => simp only [DsRep] at h2
      | cons _ _ => simp only [DsRep] at h1
    · cases h
/-- any deep value of one cell -/
def tD : Ty D where
  dec := fun | .s (.l (.v x)) => some (.v x) | .s (.l (.d x)) => some x | _ => none
  enc := fun x => .s (.l (ofD x))
  ok := by
    intro A x h ρ al v hr
    split at h
    · injection h with h; subst h; exact hr
    · injection h with h; subst h; exact ofD_rep.2 hr
    · cases h

def decAllD {α : Type} (d : List D → Option α) : List (List D) → Option (List α)
  | [] => some []
  | e :: r => match d e, decAllD d r with
    | some x, some l => some (x :: l)
    | _, _ => none

theorem decAllD_map {α : Type} (R : RowTy α) : ∀ l : List α, decAllD R.dec (l.map R.enc) = some l
  | [] => rfl
  | x :: l => by simp [decAllD, R.back, decAllD_map R l]
theorem decAllD_inv {α : Type} (R : RowTy α) : ∀ {els : List (List D)} {l : List α}, decAllD R.dec els = some l → els = l.map R.enc
  | [], l, hd => by injection hd with hd; subst hd; rfl
  | c :: r, l, hd => by
    simp only [decAllD] at hd
    split at hd
    case h_2 => cases hd
    rename_i x l' h1 h2
    injection hd with hd
    subst hd
    rw [R.inv h1, decAllD_inv R h2]
    rfl
theorem decAllD_append {α : Type} {d : List D → Option α} : ∀ {a b : List (List D)}, decAllD d (a ++ b) = match decAllD d a, decAllD d b with
    | some x, some y => some (x ++ y)
    | _, _ => none
  | [], b => by cases h : decAllD d b <;> simp [decAllD, h]
  | e :: a, b => by
    rw [List.cons_append, decAllD, decAllD_append (a := a)]
    cases h1 : d e with
    | none => simp [decAllD, h1]
    | some x =>
      cases h2 : decAllD d a with
      | none => simp [decAllD, h1, h2]
      | some l => cases h3 : decAllD d b <;> simp [decAllD, h1, h2]

/-- a slice of such elements -/
def tSl {α : Type} (sz : Nat) (R : RowTy α) : Ty (List α) where
  dec := fun
    | .s (.l (.d (.sd sz' els))) => if sz' = sz then decAllD R.dec els else none
    | .s (.l (.v (.slice none 0 0))) => some []
    | _ => none
  enc := fun l => .s (.l (.d (.sd sz (l.map R.enc))))
  ok := by
    intro A x h ρ al v hr
    split at h
    · split at h
      · rename_i e; subst e; rw [decAllD_inv R h] at hr; exact hr
      · cases h
    · injection h with h; subst h
      have : v = .slice none 0 0 := hr
      subst this
      simp only [ARep, SRep, LRep, DRep]
      exact ⟨none, 0, rfl, Nat.le_refl _, fun h => absurd rfl h⟩
    · cases h

theorem toDs0_ofDs : ∀ {ds : List D}, toDs0 (ofDs ds) = some ds
  | [] => rfl
  | d :: ds => by
    have := toDs0_ofDs (ds := ds)
    unfold ofDs at this ⊢
    rw [List.map_cons, toDs0, this]
    cases d <;> rfl

/-- a struct -/
def tAgg {α : Type} (R : RowTy α) : Ty α where
  dec := fun
    | .s (.agg xs) => match toDs0 xs with
      | some ds => R.dec ds
      | none => none
    | _ => none
  enc := fun x => .s (.agg (ofDs (R.enc x)))
  ok := by
    intro A x h ρ al v hr
    split at h
    · split at h
      · rename_i hd
        obtain ⟨cs, rfl, hr⟩ := hr
        rw [← R.inv h]
        exact ⟨cs, rfl, DsRep.ls rfl (toDs0_rep hd hr)⟩
      · cases h
    · cases h

def rInt (k : IntKind) : RowTy Int where
  dec := fun | [.v (.int k' z)] => if k' = k then some z else none | _ => none
  enc := fun z => [.v (.int k z)]
  inv := by
    intro c x h
    split at h
    · split at h
      · rename_i e; injection h with h; subst h; subst e; rfl
      · cases h
    · cases h
  back := by intro x; simp
def rStr : RowTy ByteArray where
  dec := fun | [.v (.string s)] => some s | _ => none
  enc := fun s => [.v (.string s)]
  inv := by
    intro c x h
    split at h
    · injection h with h; subst h; rfl
    · cases h
  back := by intro x; rfl

theorem take_map1 {α β : Type} (f : α → β) (l : List α) : List.take l.length (List.map f l) = List.map f l := by rw [List.take_of_length_le (by simp)]
theorem take_map2 {α β γ : Type} (f : α → β) (g : β → γ) (l : List α) : List.take l.length (List.map g (List.map f l)) = List.map g (List.map f l) := by rw [List.take_of_length_le (by simp)]

section
variable {P : Program}

def args0 (q : Prop) : List AV → Option (Prop × Unit)
  | [] => some (q, ())
  | _ => none
def args1 {α : Type} (T : Ty α) (q : α → Prop) : List AV → Option (Prop × α)
  | [A] => match T.dec A with
    | some x => some (q x, x)
    | none => none
  | _ => none
def args2 {α β : Type} (T : Ty α) (U : Ty β) (q : α → β → Prop) : List AV → Option (Prop × (α × β))
  | [A, B] => match T.dec A, U.dec B with
    | some x, some y => some (q x y, (x, y))
    | _, _ => none
  | _ => none
def args3 {α β γ : Type} (T : Ty α) (U : Ty β) (V : Ty γ) (q : α → β → γ → Prop) : List AV → Option (Prop × (α × β × γ))
  | [A, B, C] => match T.dec A, U.dec B, V.dec C with
    | some x, some y, some z => some (q x y z, (x, y, z))
    | _, _, _ => none
  | _ => none
def args4 {α β γ δ : Type} (T : Ty α) (U : Ty β) (V : Ty γ) (W : Ty δ) (q : α → β → γ → δ → Prop) : List AV → Option (Prop × (α × β × γ × δ))
  | [A, B, C, E] => match T.dec A, U.dec B, V.dec C, W.dec E with
    | some x, some y, some z, some u => some (q x y z u, (x, y, z, u))
    | _, _, _, _ => none
  | _ => none

def mk0 (f : FuncId) (fn : Func) (c : Code) (hf : P.funcs[f]? = some fn) (hb : fn.body = some c)
    (hen : ∀ (args : Array Value) (w : World), (callFunc f args).run P w = .ok (.enter f args) w) (q : Prop) (out : PO)
    (body : q → SW P ⟨none, 0⟩ fn.ntmps c ⟨0, [], []⟩ (outQ P fn.results.toList out)) : Spec P f :=
  mkP f fn c hf hb hen (args0 q) (fun _ => []) (fun _ => out)
    (by intro as p x h _; unfold args0 at h; split at h
        · exact ⟨Nat.zero_le _, fun _ _ _ hA => hA⟩
        · cases h)
    (by intro as p x h hp; unfold args0 at h; split at h
        · injection h with h; injection h with h1 h2; subst h1; exact body hp
        · cases h)

def mk1 {α : Type} (f : FuncId) (fn : Func) (c : Code) (hf : P.funcs[f]? = some fn) (hb : fn.body = some c)
    (hen : ∀ (args : Array Value) (w : World), (callFunc f args).run P w = .ok (.enter f args) w) (T : Ty α) (q : α → Prop) (out : α → PO) (hn : 1 ≤ fn.ntmps)
    (body : ∀ x, q x → SW P ⟨none, 0⟩ fn.ntmps c ⟨0, zipT 0 [T.enc x], []⟩ (outQ P fn.results.toList (out x))) : Spec P f :=
  mkP f fn c hf hb hen (args1 T q) (fun x => [T.enc x]) out
    (by intro as p x h _; unfold args1 at h; split at h
        · split at h
          · rename_i hx; injection h with h; injection h with h1 h2; subst h2
            refine ⟨hn, fun ρ al vals hA => ?_⟩
            match vals, hA with
            | [v], ⟨a, _⟩ => exact ⟨T.ok hx a, trivial⟩
          · cases h
        · cases h)
    (by intro as p x h hp; unfold args1 at h; split at h
        · split at h
          · injection h with h; injection h with h1 h2; subst h1; subst h2; exact body _ hp
          · cases h
        · cases h)

def mk2 {α β : Type} (f : FuncId) (fn : Func) (c : Code) (hf : P.funcs[f]? = some fn) (hb : fn.body = some c)
    (hen : ∀ (args : Array Value) (w : World), (callFunc f args).run P w = .ok (.enter f args) w) (T : Ty α) (U : Ty β) (q : α → β → Prop) (out : α → β → PO) (hn : 2 ≤ fn.ntmps)
    (body : ∀ x y, q x y → SW P ⟨none, 0⟩ fn.ntmps c ⟨0, zipT 0 [T.enc x, U.enc y], []⟩ (outQ P fn.results.toList (out x y))) : Spec P f :=
  mkP f fn c hf hb hen (args2 T U q) (fun x => [T.enc x.1, U.enc x.2]) (fun x => out x.1 x.2)
    (by intro as p x h _; unfold args2 at h; split at h
        · split at h
          · rename_i hx hy; injection h with h; injection h with h1 h2; subst h2
            refine ⟨hn, fun ρ al vals hA => ?_⟩
            match vals, hA with
            | [v, u], ⟨a, b, _⟩ => exact ⟨T.ok hx a, U.ok hy b, trivial⟩
          · cases h
        · cases h)
    (by intro as p x h hp; unfold args2 at h; split at h
        · split at h
          · injection h with h; injection h with h1 h2; subst h1; subst h2; exact body _ _ hp
          · cases h
        · cases h)

def mk3 {α β γ : Type} (f : FuncId) (fn : Func) (c : Code) (hf : P.funcs[f]? = some fn) (hb : fn.body = some c)
    (hen : ∀ (args : Array Value) (w : World), (callFunc f args).run P w = .ok (.enter f args) w) (T : Ty α) (U : Ty β) (V : Ty γ) (q : α → β → γ → Prop) (out : α → β → γ → PO) (hn : 3 ≤ fn.ntmps)
    (body : ∀ x y z, q x y z → SW P ⟨none, 0⟩ fn.ntmps c ⟨0, zipT 0 [T.enc x, U.enc y, V.enc z], []⟩ (outQ P fn.results.toList (out x y z))) : Spec P f :=
  mkP f fn c hf hb hen (args3 T U V q) (fun x => [T.enc x.1, U.enc x.2.1, V.enc x.2.2]) (fun x => out x.1 x.2.1 x.2.2)
    (by intro as p x h _; unfold args3 at h; split at h
        · split at h
          · rename_i hx hy hz; injection h with h; injection h with h1 h2; subst h2
            refine ⟨hn, fun ρ al vals hA => ?_⟩
            match vals, hA with
            | [v, u, t], ⟨a, b, c, _⟩ => exact ⟨T.ok hx a, U.ok hy b, V.ok hz c, trivial⟩
          · cases h
        · cases h)
    (by intro as p x h hp; unfold args3 at h; split at h
        · split at h
          · injection h with h; injection h with h1 h2; subst h1; subst h2; exact body _ _ _ hp
          · cases h
        · cases h)

def mk4 {α β γ δ : Type} (f : FuncId) (fn : Func) (c : Code) (hf : P.funcs[f]? = some fn) (hb : fn.body = some c)
    (hen : ∀ (args : Array Value) (w : World), (callFunc f args).run P w = .ok (.enter f args) w) (T : Ty α) (U : Ty β) (V : Ty γ) (W : Ty δ) (q : α → β → γ → δ → Prop) (out : α → β → γ → δ → PO) (hn : 4 ≤ fn.ntmps)
    (body : ∀ x y z u, q x y z u → SW P ⟨none, 0⟩ fn.ntmps c ⟨0, zipT 0 [T.enc x, U.enc y, V.enc z, W.enc u], []⟩ (outQ P fn.results.toList (out x y z u))) : Spec P f :=
  mkP f fn c hf hb hen (args4 T U V W q) (fun x => [T.enc x.1, U.enc x.2.1, V.enc x.2.2.1, W.enc x.2.2.2]) (fun x => out x.1 x.2.1 x.2.2.1 x.2.2.2)
    (by intro as p x h _; unfold args4 at h; split at h
        · split at h
          · rename_i hx hy hz hu; injection h with h; injection h with h1 h2; subst h2
            refine ⟨hn, fun ρ al vals hA => ?_⟩
            match vals, hA with
            | [v, u, t, r], ⟨a, b, c, d, _⟩ => exact ⟨T.ok hx a, U.ok hy b, V.ok hz c, W.ok hu d, trivial⟩
          · cases h
        · cases h)
    (by intro as p x h hp; unfold args4 at h; split at h
        · split at h
          · injection h with h; injection h with h1 h2; subst h1; subst h2; exact body _ _ _ _ hp
          · cases h
        · cases h)
end

end Go.Proofs.YtcdbldakjepjiaaDoor
