/- The value logic, computed: what is made lasting; functions with contracts of their own among those that are computed; a closed call's contract. No program in sight. -/
import Derived.Test.YtpdjaabjfhjppaaGreatDoorZ9
set_option linter.unusedVariables false
set_option linter.unusedSimpArgs false
namespace Go.Proofs.YtpdjaabjfhjppaaGreatDoor
open Go.RowKit
set_option maxRecDepth 100000

/-! ### What is made lasting, with conditions that can be computed -/
def mapB {α β : Type} (g : α → Option (Bool × List Nat × β)) : List α → Option (Bool × List Nat × List β)
  | [] => some (true, [], [])
  | x :: r => match g x, mapB g r with
    | some (p, u, d), some (q, v, l) => some (p && q, u ++ v, d :: l)
    | _, _ => none
def LV.toB (h : Heap) : Nat → LV → Option (Bool × List Nat × D)
  | _, .v x => some (true, [], .v x)
  | _, .d x => some (true, [], x)
  | f + 1, .sl b i n => match hget h b with
    | some k => if k.own = true then match mapB (mapB (LV.toB h f)) ((k.els.drop i).take n) with
        | some (q, u, ds) => some (decide (i + n ≤ k.els.length) && q, b :: u, .sd k.sz ds)
        | none => none
        else none
    | none => none
  | f + 1, .p b i j => match hget h b with
    | some k => if k.own = true then match k.els[i]? with
        | some e => match mapB (LV.toB h f) (e.drop j) with
          | some (q, u, ds) => some (q, b :: u, .pd ds)
          | none => none
        | none => none
        else none
    | none => none
  | _, _ => none
def SV.toB (h : Heap) (f : Nat) : SV → Option (Bool × List Nat × SV)
  | .l x => match x.toB h f with
    | some (p, u, d) => some (p, u, .l (ofD d))
    | none => none
  | .agg xs => match mapB (LV.toB h f) xs with
    | some (p, u, ds) => some (p, u, .agg (ofDs ds))
    | none => none
def AV.toB (h : Heap) (f : Nat) : AV → Option (Bool × List Nat × AV)
  | .s x => match x.toB h f with
    | some (p, u, d) => some (p, u, .s d)
    | none => none
  | .tup xs => match mapB (SV.toB h f) xs with
    | some (p, u, ds) => some (p, u, .tup ds)
    | none => none
  | .fn g a c => match mapB (LV.toB h f) a, mapB (LV.toB h f) c with
    | some (p, u, fd), some (q, v, cd) => some (p && q, u ++ v, .fn g (ofDs fd) (ofDs cd))
    | _, _ => none
/-- a twin: the same, and the condition holds where it is computed to -/
def Twin {α β : Type} (g : α → Option (Bool × List Nat × β)) (g' : α → Option (Prop × List Nat × β)) : Prop := ∀ x b u d, g x = some (b, u, d) → ∃ p : Prop, g' x = some (p, u, d) ∧ (b = true → p)
theorem mapB_twin {α β : Type} {g : α → Option (Bool × List Nat × β)} {g' : α → Option (Prop × List Nat × β)} (hg : Twin g g') : Twin (mapB g) (mapT g')
  | [], b, u, d, h => by
    injection h with h
    injection h with h1 h
    injection h with h2 h3
    subst h1 h2 h3
    exact ⟨True, rfl, fun _ => trivial⟩
  | x :: r, b, u, d, h => by
    rw [mapB] at h
    split at h
    case h_2 => cases h
    rename_i p1 u1 d1 q1 v1 l1 e1 e2
    injection h with h
    injection h with h1 h
    injection h with h2 h3
    subst h1 h2 h3
    obtain ⟨p, g1, g2⟩ := hg _ _ _ _ e1
    obtain ⟨q, g3, g4⟩ := mapB_twin hg _ _ _ _ e2
    rw [mapT, g1, g3]
    refine ⟨_, rfl, fun hb => ?_⟩
    simp only [Bool.and_eq_true] at hb
    exact ⟨g2 hb.1, g4 hb.2⟩
theorem LV.toB_twin {h : Heap} : ∀ f, Twin (LV.toB h f) (LV.toD h f)
  | 0, x, b, u, dd, hx => by
    cases x <;> first
      | (simp only [LV.toB] at hx; cases hx; done)
      | (simp only [LV.toB, Option.some.injEq, Prod.mk.injEq] at hx
         obtain ⟨rfl, rfl, rfl⟩ := hx
         exact ⟨True, by simp only [LV.toD], fun _ => trivial⟩)
  | f + 1, x, b, u, dd, hx => by
    have ih := LV.toB_twin (h := h) f
    cases x with
    | v x =>
      simp only [LV.toB, Option.some.injEq, Prod.mk.injEq] at hx
      obtain ⟨rfl, rfl, rfl⟩ := hx
      exact ⟨True, by simp only [LV.toD], fun _ => trivial⟩
    | d x =>
      simp only [LV.toB, Option.some.injEq, Prod.mk.injEq] at hx
      obtain ⟨rfl, rfl, rfl⟩ := hx
      exact ⟨True, by simp only [LV.toD], fun _ => trivial⟩
    | any => simp only [LV.toB] at hx; cases hx
    | bf g bs cs => simp only [LV.toB] at hx; cases hx
    | sl c i n =>
      simp only [LV.toB] at hx
      split at hx
      case h_2 => cases hx
      rename_i k hk
      split at hx
      case isFalse => cases hx
      rename_i ho
      split at hx
      case h_2 => cases hx
      rename_i q u1 ds hm
      simp only [Option.some.injEq, Prod.mk.injEq] at hx
      obtain ⟨rfl, rfl, rfl⟩ := hx
      obtain ⟨p, g1, g2⟩ := mapB_twin (mapB_twin ih) _ _ _ _ hm
      simp only [LV.toD, hk]
      rw [if_pos ho, g1]
      refine ⟨_, rfl, fun hb => ?_⟩
      simp only [Bool.and_eq_true, decide_eq_true_eq] at hb
      exact ⟨hb.1, g2 hb.2⟩
    | p c i j =>
      simp only [LV.toB] at hx
      split at hx
      case h_2 => cases hx
      rename_i k hk
      split at hx
      case isFalse => cases hx
      rename_i ho
      split at hx
      case h_2 => cases hx
      rename_i e he
      split at hx
      case h_2 => cases hx
      rename_i q u1 ds hm
      simp only [Option.some.injEq, Prod.mk.injEq] at hx
      obtain ⟨rfl, rfl, rfl⟩ := hx
      obtain ⟨p, g1, g2⟩ := mapB_twin ih _ _ _ _ hm
      simp only [LV.toD, hk]
      rw [if_pos ho]
      simp only [he, g1]
      exact ⟨_, rfl, g2⟩
theorem SV.toB_twin {h : Heap} {f : Nat} : Twin (SV.toB h f) (SV.toD h f) := by
  intro x b u d hx
  cases x with
  | l x =>
    simp only [SV.toB] at hx
    split at hx
    case h_2 => cases hx
    rename_i e
    simp only [Option.some.injEq, Prod.mk.injEq] at hx
    obtain ⟨rfl, rfl, rfl⟩ := hx
    obtain ⟨p, g1, g2⟩ := LV.toB_twin f _ _ _ _ e
    simp only [SV.toD, g1]
    exact ⟨_, rfl, g2⟩
  | agg xs =>
    simp only [SV.toB] at hx
    split at hx
    case h_2 => cases hx
    rename_i e
    simp only [Option.some.injEq, Prod.mk.injEq] at hx
    obtain ⟨rfl, rfl, rfl⟩ := hx
    obtain ⟨p, g1, g2⟩ := mapB_twin (LV.toB_twin f) _ _ _ _ e
    simp only [SV.toD, g1]
    exact ⟨_, rfl, g2⟩
theorem AV.toB_twin {h : Heap} {f : Nat} : Twin (AV.toB h f) (AV.toD h f) := by
  intro x b u d hx
  cases x with
  | s x =>
    simp only [AV.toB] at hx
    split at hx
    case h_2 => cases hx
    rename_i e
    simp only [Option.some.injEq, Prod.mk.injEq] at hx
    obtain ⟨rfl, rfl, rfl⟩ := hx
    obtain ⟨p, g1, g2⟩ := SV.toB_twin _ _ _ _ e
    simp only [AV.toD, g1]
    exact ⟨_, rfl, g2⟩
  | tup xs =>
    simp only [AV.toB] at hx
    split at hx
    case h_2 => cases hx
    rename_i e
    simp only [Option.some.injEq, Prod.mk.injEq] at hx
    obtain ⟨rfl, rfl, rfl⟩ := hx
    obtain ⟨p, g1, g2⟩ := mapB_twin SV.toB_twin _ _ _ _ e
    simp only [AV.toD, g1]
    exact ⟨_, rfl, g2⟩
  | fn g a c =>
    simp only [AV.toB] at hx
    split at hx
    case h_2 => cases hx
    rename_i e1 e2
    simp only [Option.some.injEq, Prod.mk.injEq] at hx
    obtain ⟨rfl, rfl, rfl⟩ := hx
    obtain ⟨p, g1, g2⟩ := mapB_twin (LV.toB_twin f) _ _ _ _ e1
    obtain ⟨q, g3, g4⟩ := mapB_twin (LV.toB_twin f) _ _ _ _ e2
    simp only [AV.toD, g1, g3]
    refine ⟨_, rfl, fun hb => ?_⟩
    simp only [Bool.and_eq_true] at hb
    exact ⟨g2 hb.1, g4 hb.2⟩

/-! ### Functions with contracts of their own -/
section
variable {P : Program}
def obP {X : Type} (dec : List AV → Option (Prop × X)) (qB : X → Bool) (h : Heap) (args : List AV) : Bool := match mapB (AV.toB h 4) args with
  | some (b, _, as) => match dec as with
    | some (_, x) => b && qB x
    | none => false
  | none => false
/-- a function of deep values -/
def spP {X : Type} (f : FuncId) (spec : Spec P f) (dec : List AV → Option (Prop × X)) (out : X → PO) (hrun : ∀ id h args, spec.run id h args = runP dec out h args) (qB : X → Bool)
    (hq : ∀ as q x, dec as = some (q, x) → qB x = true → q) : Sp P where
  f := f
  spec := spec
  ob := fun _ h args => obP dec qB h args
  ok := by
    intro id h args R ho hr
    rw [hrun] at hr
    unfold obP at ho
    split at ho
    case h_2 => cases ho
    rename_i b u as hb
    obtain ⟨p, g1, g2⟩ := mapB_twin AV.toB_twin _ _ _ _ hb
    split at ho
    case h_2 => cases ho
    rename_i q x hd
    simp only [Bool.and_eq_true] at ho
    unfold runP at hr
    rw [g1] at hr
    simp only [hd] at hr
    split at hr
    · injection hr with hr
      subst hr
      exact ⟨g2 ho.1, hq _ _ _ hd ho.2⟩
    · cases hr

/-- A closed call whose run is computed: a contract. -/
def mkEv {f : FuncId} {out : AV} {ex : List (Sp P)} {rg : Rg} (hm : P.follows .mixedOrders = true) (hrg : RgOk P rg) (k : Nat)
    (hev : ∀ (id : Nat) (h : Heap), callN P ex rg k f id h [] = .val out []) : Spec P f :=
  have key : ∃ s : Spec P f, ∀ id h, ∃ R, s.run id h [] = some R ∧ R.ob ∧ R.r = out ∧ R.E = [] := by
    obtain ⟨ctx, hc⟩ := callN_ok hm ex hrg k
    obtain ⟨run, R, h1, h2, h3, h4, h5⟩ := hc.val _ _ _ _ _ _ (hev 0 [])
    obtain ⟨s, rfl⟩ := crun_some h1
    refine ⟨s, fun id h => ?_⟩
    obtain ⟨run, R, g1, g2, g3, g4, g5⟩ := hc.val _ _ _ _ _ _ (hev id h)
    rw [h1] at g1
    injection g1 with g1
    subst g1
    exact ⟨R, g2, g3, g4, g5⟩
  { enter := key.choose.enter
    run := fun _ _ args => match args with | [] => some ⟨True, out, []⟩ | _ => none
    mono := fun _ hr => hr
    sound := by
      intro id h args R hr hob B w0 ρ al w vals H hid hA
      split at hr
      case h_2 => cases hr
      injection hr with hr
      subst hr
      obtain ⟨R, g1, g2, g3, g4⟩ := key.choose_spec id h
      refine (key.choose.sound g1 g2 vals H hid hA).mono fun e w' ⟨v, ρ', al', e1, e2, e3, e4, e5⟩ => ?_
      rw [g3] at e4
      rw [g4] at e5
      exact ⟨v, ρ', al', e1, e2, e3, e4, e5⟩ }
end
end Go.Proofs.YtpdjaabjfhjppaaGreatDoor
