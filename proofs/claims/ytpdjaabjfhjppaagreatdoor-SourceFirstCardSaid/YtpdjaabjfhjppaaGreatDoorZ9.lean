/- The value logic, computed: calls to whatever depth. No program in sight. -/
import Derived.Test.YtpdjaabjfhjppaaGreatDoorZ8
set_option linter.unusedVariables false
set_option linter.unusedSimpArgs false
namespace Go.Proofs.YtpdjaabjfhjppaaGreatDoor
open Go.RowKit
set_option maxRecDepth 100000

/-- a function with a contract of its own, and a way to compute that contract's condition -/
structure Sp (P : Program) where
  f : FuncId
  spec : Spec P f
  ob : Nat → Heap → List AV → Bool
  ok : ∀ {id : Nat} {h : Heap} {args : List AV} {R : Res}, ob id h args = true → spec.run id h args = some R → R.ob
abbrev Rg := Cl → Nat → Operand → Array Tmp → Code → Code → St → Cx
def RgOk (P : Program) (rg : Rg) : Prop := ∀ (ctx : Ctx P) (call : Cl) (ro : Cf) (n : Nat), ClOk ctx call → RngOk P ro n (rg call n)
def noRg : Rg := fun _ _ _ _ _ _ _ => .no 90
theorem noRg_ok (P : Program) : RgOk P noRg := fun _ _ _ _ _ _ _ _ _ _ _ _ h => by cases h

noncomputable section
variable (P : Program) (ex : List (Sp P)) (rg : Rg)
def findX (g : FuncId) : Option (Sp P) := List.rec (motive := fun _ => Option (Sp P)) none (fun a _ ih => cond (Nat.beq a.f g) (some a) ih) ex
def tagE (g : FuncId) (x : CO) : CO := match x with
  | .val r E => .val r E
  | .pan v E => .pan v E
  | .no e => .no (cond (Nat.blt e 1000) (g * 1000 + e) e)
def spR (b : Bool) (x : Option Res) : CO := match x with
  | some R => cond b (.val R.r R.E) (.no 83)
  | none => .no 84
def spRun (sp : Sp P) (id : Nat) (h : Heap) (args : List AV) : CO := spR (sp.ob id h args) (sp.spec.run id h args)
def nameR (s : String) : Bool := !(s == "runtime.NumGoroutine")
def callF2 (call : Cl) (fn : Func) (id : Nat) (h : Heap) (args : List AV) (b : Option Code) : CO := match b with
  | some c => cond (nameR fn.name) (callB P fn.ntmps fn.results.toList (cCode P call fn.ntmps (drawC P call fn.ntmps) (rg call fn.ntmps) c) id h args) (.no 81)
  | none => .no 82
def callF1 (call : Cl) (id : Nat) (h : Heap) (args : List AV) (fn : Option Func) : CO := match fn with
  | some fn => callF2 P rg call fn id h args fn.body
  | none => .no 85
def callF0 (call : Cl) (g : FuncId) (id : Nat) (h : Heap) (args : List AV) (sp : Option (Sp P)) : CO := match sp with
  | some sp => spRun P sp id h args
  | none => callF1 P rg call id h args P.funcs[g]?
def callN (k : Nat) : Cl := Nat.rec (motive := fun _ => Cl) (fun _ _ _ _ => .no 80) (fun _ ih g id h args => tagE g (callF0 P rg ih g id h args (findX P ex g))) k
end

section
variable {P : Program}
theorem enter_of {f : FuncId} {fn : Func} {c : Code} (hf : P.funcs[f]? = some fn) (hb : fn.body = some c) (hn : nameR fn.name = true) (args : Array Value) (w : World) : (callFunc f args).run P w = .ok (.enter f args) w := by
  have hn : (fn.name == "runtime.NumGoroutine") = false := by simpa [nameR] using hn
  simp only [callFunc, Sem.run_bind, run_program, Result.andThen_ok, hf, hn, hb, Option.isNone_some, Bool.false_eq_true, if_false, Sem.run_pure]
theorem findX_some {ex : List (Sp P)} {g : FuncId} {sp : Sp P} (h : findX P ex g = some sp) : sp ∈ ex ∧ sp.f = g := by
  induction ex with
  | nil => cases h
  | cons a r ih =>
    have h : cond (Nat.beq a.f g) (some a) (findX P r g) = some sp := h
    by_cases e : a.f = g
    · rw [nbt e] at h
      injection h with h
      subst h
      exact ⟨List.mem_cons_self, e⟩
    · rw [nbf e] at h
      obtain ⟨h1, h2⟩ := ih h
      exact ⟨List.mem_cons_of_mem _ h1, h2⟩
/-- the special functions' contracts -/
def exCtx (ex : List (Sp P)) : Ctx P := ex.map fun sp => ⟨sp.f, sp.spec⟩
theorem exCtx_run {ex : List (Sp P)} {g : FuncId} {sp : Sp P} (h : findX P ex g = some sp) (r : Ctx P) : crun (exCtx ex ++ r) g = some sp.spec.run := by
  induction ex with
  | nil => cases h
  | cons a l ih =>
    have h : cond (Nat.beq a.f g) (some a) (findX P l g) = some sp := h
    show crun (⟨a.f, a.spec⟩ :: (exCtx l ++ r)) g = _
    rw [crun]
    by_cases e : a.f = g
    · rw [nbt e] at h
      injection h with h
      subst h
      rw [if_pos e]
    · rw [nbf e] at h
      rw [if_neg e]
      exact ih h
theorem exCtx_no {ex : List (Sp P)} {g : FuncId} (h : findX P ex g = none) (r : Ctx P) : crun (exCtx ex ++ r) g = crun r g ∧ cpan (exCtx ex ++ r) g = cpan r g := by
  induction ex with
  | nil => exact ⟨rfl, rfl⟩
  | cons a l ih =>
    have h : cond (Nat.beq a.f g) (some a) (findX P l g) = none := h
    show crun (⟨a.f, a.spec⟩ :: (exCtx l ++ r)) g = _ ∧ cpan (⟨a.f, a.spec⟩ :: (exCtx l ++ r)) g = _
    rw [crun, cpan]
    by_cases e : a.f = g
    · rw [nbt e] at h
      cases h
    · rw [nbf e] at h
      rw [if_neg e, if_neg e]
      exact ih h
/-- contracts of many functions -/
def ctxL (mk : ∀ g, Option (Spec P g)) : List FuncId → Ctx P
  | [] => []
  | g :: l => match mk g with
    | some s => ⟨g, s⟩ :: ctxL mk l
    | none => ctxL mk l
theorem ctxL_run {mk : ∀ g, Option (Spec P g)} {g : FuncId} {s : Spec P g} (hs : mk g = some s) : ∀ {l : List FuncId}, g ∈ l → crun (ctxL mk l) g = some s.run ∧ cpan (ctxL mk l) g = some s.pan
  | [], h => by cases h
  | a :: l, h => by
    by_cases e : a = g
    · subst e
      rw [ctxL, hs]
      simp only [crun, cpan, if_true]
      exact ⟨trivial, trivial⟩
    · have h2 : g ∈ l := by
        rcases List.mem_cons.1 h with h | h
        · exact absurd h.symm e
        · exact h
      rw [ctxL]
      cases hm : mk a with
      | none => exact ctxL_run hs h2
      | some s2 =>
        simp only [crun, cpan]
        rw [if_neg e, if_neg e]
        exact ctxL_run hs h2

theorem callN_ok (hm : P.follows .mixedOrders = true) (ex : List (Sp P)) {rg : Rg} (hrg : RgOk P rg) : ∀ k, ∃ ctx : Ctx P, ClOk ctx (callN P ex rg k)
  | 0 => ⟨[], ⟨fun g id h args r E he => (by cases he), fun g id h args v E he => (by cases he)⟩⟩
  | k + 1 => by
    obtain ⟨ctx, hc⟩ := callN_ok hm ex hrg k
    classical
    obtain ⟨call, hcall⟩ : ∃ call, callN P ex rg k = call := ⟨_, rfl⟩
    rw [hcall] at hc
    let body (fn : Func) (c : Code) : Bd := cCode P call fn.ntmps (drawC P call fn.ntmps) (rg call fn.ntmps) c
    have hbd : ∀ (fn : Func) (c : Code) K s k s', body fn c s = .go k s' → SW P ⟨none, K⟩ fn.ntmps c s (isQ k s') := fun fn c K s k s' h => cCode_ok hc (drawC_ok hc hm) (hrg ctx call _ _ hc) c s k s' h
    let mk : ∀ g, Option (Spec P g) := fun g => if h : ∃ p : Func × Code, P.funcs[g]? = some p.1 ∧ p.1.body = some p.2 ∧ nameR p.1.name = true then
      some (mkC' g h.choose.1 h.choose.2 h.choose_spec.1 h.choose_spec.2.1 (enter_of h.choose_spec.1 h.choose_spec.2.1 h.choose_spec.2.2) (body _ _) (hbd _ _)) else none
    have hmk : ∀ {g : FuncId} {fn : Func} {c : Code}, P.funcs[g]? = some fn → fn.body = some c → nameR fn.name = true → ∃ s : Spec P g, mk g = some s ∧ (∀ id h args, s.run id h args = coRun (callB P fn.ntmps fn.results.toList (body fn c) id h args)) ∧ ∀ id h args, s.pan id h args = coPan (callB P fn.ntmps fn.results.toList (body fn c) id h args) := by
      intro g fn c h1 h2 h3
      have hex : ∃ p : Func × Code, P.funcs[g]? = some p.1 ∧ p.1.body = some p.2 ∧ nameR p.1.name = true := ⟨(fn, c), h1, h2, h3⟩
      have e1 : hex.choose.1 = fn := Option.some.inj (hex.choose_spec.1.symm.trans h1)
      have e2 : hex.choose.2 = c := Option.some.inj (hex.choose_spec.2.1.symm.trans ((congrArg Func.body e1).trans h2))
      have e : hex.choose = (fn, c) := Prod.ext e1 e2
      refine ⟨_, dif_pos hex, fun id h args => ?_, fun id h args => ?_⟩
      · show coRun (callB P hex.choose.1.ntmps hex.choose.1.results.toList (body hex.choose.1 hex.choose.2) id h args) = _
        rw [e]
      · show coPan (callB P hex.choose.1.ntmps hex.choose.1.results.toList (body hex.choose.1 hex.choose.2) id h args) = _
        rw [e]
    have hin : ∀ {g : FuncId} {fn : Func}, P.funcs[g]? = some fn → g ∈ List.range P.funcs.size := by
      intro g fn h
      rw [List.mem_range]
      exact (Array.getElem?_eq_some_iff.1 h).1
    have hlook : ∀ {g : FuncId} {id : Nat} {h : Heap} {args : List AV} {x : CO}, (∀ e, x ≠ .no e) → callN P ex rg (k + 1) g id h args = x →
        (∃ sp, findX P ex g = some sp ∧ spRun P sp id h args = x) ∨ (findX P ex g = none ∧ ∃ fn c, P.funcs[g]? = some fn ∧ fn.body = some c ∧ nameR fn.name = true ∧ callB P fn.ntmps fn.results.toList (body fn c) id h args = x) := by
      intro g id h args x hx he
      have he : tagE g (callF0 P rg (callN P ex rg k) g id h args (findX P ex g)) = x := he
      rw [hcall] at he
      have untag : ∀ y, tagE g y = x → y = x := by
        intro y hy
        cases y with
        | val r E => exact hy
        | pan v E => exact hy
        | no e => exact absurd hy.symm (hx _)
      have he := untag _ he
      cases hf : findX P ex g with
      | some sp => rw [hf] at he; exact .inl ⟨sp, rfl, he⟩
      | none =>
        rw [hf] at he
        refine .inr ⟨rfl, ?_⟩
        have he : callF1 P rg call id h args P.funcs[g]? = x := he
        cases hfn : P.funcs[g]? with
        | none => rw [hfn] at he; exact absurd he.symm (hx _)
        | some fn =>
          rw [hfn] at he
          have he : callF2 P rg call fn id h args fn.body = x := he
          cases hb : fn.body with
          | none => rw [hb] at he; exact absurd he.symm (hx _)
          | some c =>
            rw [hb] at he
            simp only [callF2] at he
            cases hn : nameR fn.name
            · rw [hn] at he; exact absurd he.symm (hx _)
            · rw [hn] at he
              exact ⟨fn, c, rfl, hb, hn, he⟩
    refine ⟨exCtx ex ++ ctxL mk (List.range P.funcs.size), ⟨fun g id h args r E he => ?_, fun g id h args v E he => ?_⟩⟩
    · rcases hlook (by simp) he with ⟨sp, h1, h2⟩ | ⟨h0, fn, c, h1, h2, h3, h4⟩
      · refine ⟨sp.spec.run, ?_⟩
        · unfold spRun at h2
          cases hR : sp.spec.run id h args with
          | none => rw [hR] at h2; cases h2
          | some R =>
            rw [hR] at h2
            simp only [spR] at h2
            cases ho : sp.ob id h args
            · rw [ho] at h2; cases h2
            · rw [ho] at h2
              injection h2 with e1 e2
              exact ⟨R, exCtx_run h1 _, rfl, sp.ok ho hR, e1, e2⟩
      · obtain ⟨s, g1, g2, -⟩ := hmk h1 h2 h3
        refine ⟨s.run, ⟨True, r, E⟩, ?_, ?_, trivial, rfl, rfl⟩
        · rw [(exCtx_no h0 _).1]
          exact (ctxL_run g1 (hin h1)).1
        · rw [g2, h4]
          rfl
    · rcases hlook (by simp) he with ⟨sp, h1, h2⟩ | ⟨h0, fn, c, h1, h2, h3, h4⟩
      · exfalso
        unfold spRun spR at h2
        cases hR : sp.spec.run id h args with
        | none => rw [hR] at h2; cases h2
        | some R =>
          rw [hR] at h2
          simp only at h2
          cases ho : sp.ob id h args <;> rw [ho] at h2 <;> cases h2
      · obtain ⟨s, g1, -, g2⟩ := hmk h1 h2 h3
        refine ⟨s.pan, True, ?_, ?_, trivial⟩
        · rw [(exCtx_no h0 _).2]
          exact (ctxL_run g1 (hin h1)).2
        · rw [g2, h4]
          rfl
end
end Go.Proofs.YtpdjaabjfhjppaaGreatDoor
