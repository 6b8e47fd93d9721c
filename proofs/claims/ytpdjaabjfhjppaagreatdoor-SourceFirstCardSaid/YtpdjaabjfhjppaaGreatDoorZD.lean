/- The value logic, computed: how late calls are laid; a closed call's contract, late closures and all. No program in sight. -/
import Derived.Test.YtpdjaabjfhjppaaGreatDoorZC
set_option linter.unusedVariables false
set_option linter.unusedSimpArgs false
namespace Go.Proofs.YtpdjaabjfhjppaaGreatDoor
open Go.RowKit
set_option maxRecDepth 100000

section
variable {P : Program}
/-- a function is laid as a late call, with its arguments -/
theorem lays_plain {n : Nat} {rid : Nat} {oD : Oper} {g : FuncId} {x : Operand} {args : Array Operand} {ats : Array TypeId} {js : List Nat} {s1 : St}
    (hD : oD.op = .defer { callee := .value x, args := args, argTypes := ats }) (hDd : oD.dst = none) (hDg : oD.guard = none) (hx : ∀ a : Act, a.eval x = .func (.func g) #[] #[]) (hen : ∀ (args : Array Value) (w : World), (callFunc g args).run P w = .ok (.enter g args) w)
    (hargs : args.toList.map (evT s1.t) = pvs js) : Lays P n (.region rid #[oD] false) s1 s1.t g js := by
  intro K B w0 ρ al a w H
  let d : Deferred := { target := .fn (.func g) #[], args := #[] ++ args.map a.eval }
  refine ⟨d, .func g, #[], args.toList.map a.eval, { a with defers := d :: a.defers }, ?_, rfl, H.size, H.t, rfl, ?_, ?_⟩
  · refine wpIn_region ?_
    have w2 : Region.wanted oD (yielded #[oD] a.tmps) = true := by unfold Region.wanted; rw [hDg]
    show wpOpsIn _ _ _ _ _ [0] a w
    simp only [wpOpsIn, List.getElem?_toArray, List.getElem?_cons_zero]
    rw [if_pos w2]
    refine ⟨fun _ _ => trivial, ?_⟩
    have e2 : (oD.semAt (Fw ⟨none, K⟩).round a.eval).run P w = .ok (.defer d) w := by
      rw [show (Fw ⟨none, K⟩).round = none from rfl, Oper.semAt_none]
      simp only [execOp, hD, resolve, hx a, Deferred.ofValue, Sem.run_bind, Sem.run_pure, Result.andThen_ok]
      simp [d]
    rw [e2, Oper.uponIn_defer, hDd]
    exact ⟨trivial, rfl, rfl⟩
  · intro w
    simp [d, invoke, hen]
    rw [← Array.toList_inj]; simp
  · rw [← hargs]
    have : ∀ l : List Operand, AsRep ρ al (l.map (evT s1.t)) (l.map a.eval) := by
      intro l
      induction l with
      | nil => trivial
      | cons x l ih => exact ⟨evT_rep H.t x, ih⟩
    exact this _

/-- `defer func() { .. recover() .. }()` -/
def mkDf {f g : FuncId} {fn gn : Func} {c0 rest grest : Code} {rid rid1 : Nat} {o oM oD : Oper} {t tc : Tmp} {caps : Array Operand} (hf : P.funcs[f]? = some fn) (hb : fn.body = some (.seq c0 (.seq (.region rid1 #[oM, oD] false) rest)))
    (hgf : P.funcs[g]? = some gn) (hgb : gn.body = some (.seq (.region rid #[o] false) grest)) (hop : o.op = .call { callee := .builtin .recover, args := #[], argTypes := #[] }) (hog : o.guard = none) (hod : o.dst = some t) (hgres : gn.results = #[]) (htn : t < gn.ntmps)
    (hn : nameR fn.name = true) (hgn : nameR gn.name = true) (hM : oM.op = .makeFunc (.func g) #[] caps) (hMd : oM.dst = some tc) (hMg : oM.guard = none)
    (hD : oD.op = .defer { callee := .value (.tmp tc), args := #[], argTypes := #[] }) (hDd : oD.dst = none) (hDg : oD.guard = none) (htc : tc < fn.ntmps) (cells : List Tmp) : Df P where
  f := f
  fn := fn
  c0 := c0
  D := .region rid1 #[oM, oD] false
  rest := rest
  g := g
  gn := gn
  rid := rid
  o := o
  t := t
  grest := grest
  hf := hf
  hb := hb
  hgf := hgf
  hgb := hgb
  hop := hop
  hog := hog
  hod := hod
  hgres := hgres
  htn := htn
  hen := enter_of hf hb hn
  caps := caps.toList
  t2 := fun s => (tc, .s (.l .any)) :: s
  lays := fun s1 js h => lays_closure hM hMd hMg hD hDd hDg htc (enter_of hgf hgb hgn) h
  cells := cells

/-- `defer caught(&e, &out)` -/
def mkDfP {f g : FuncId} {fn gn : Func} {c0 rest grest : Code} {rid rid1 : Nat} {o oD : Oper} {t : Tmp} {x : Operand} {args : Array Operand} {ats : Array TypeId} (hf : P.funcs[f]? = some fn) (hb : fn.body = some (.seq c0 (.seq (.region rid1 #[oD] false) rest)))
    (hgf : P.funcs[g]? = some gn) (hgb : gn.body = some (.seq (.region rid #[o] false) grest)) (hop : o.op = .call { callee := .builtin .recover, args := #[], argTypes := #[] }) (hog : o.guard = none) (hod : o.dst = some t) (hgres : gn.results = #[]) (htn : t < gn.ntmps)
    (hn : nameR fn.name = true) (hgn : nameR gn.name = true) (hD : oD.op = .defer { callee := .value x, args := args, argTypes := ats }) (hDd : oD.dst = none) (hDg : oD.guard = none) (hx : ∀ a : Act, a.eval x = .func (.func g) #[] #[]) (cells : List Tmp) : Df P where
  f := f
  fn := fn
  c0 := c0
  D := .region rid1 #[oD] false
  rest := rest
  g := g
  gn := gn
  rid := rid
  o := o
  t := t
  grest := grest
  hf := hf
  hb := hb
  hgf := hgf
  hgb := hgb
  hop := hop
  hog := hog
  hod := hod
  hgres := hgres
  htn := htn
  hen := enter_of hf hb hn
  caps := args.toList
  t2 := fun s => s
  lays := fun s1 js h => lays_plain hD hDd hDg hx (enter_of hgf hgb hgn) h
  cells := cells

/-- A closed call whose run is computed: a contract. -/
def mkEvM {f : FuncId} {out : AV} {ex : List (Sp P)} {ds : List (Df P)} {rg : Nat → Rg} (hm : P.follows .mixedOrders = true) (hrg : RgKOk P rg) (k : Nat)
    (hev : ∀ (id : Nat) (h : Heap), callM P ex ds rg k f id h [] = .val out []) : Spec P f :=
  have key : ∃ s : Spec P f, ∀ id h, ∃ R, s.run id h [] = some R ∧ R.ob ∧ R.r = out ∧ R.E = [] := by
    obtain ⟨ctx, hc⟩ := callM_ok hm ex ds hrg k
    obtain ⟨run, R, h1, h2, h3, h4, h5⟩ := hc.val _ _ _ _ _ _ (hev 0 [])
    obtain ⟨s, rfl⟩ := crun_some h1
    refine ⟨s, fun id h => ?_⟩
    obtain ⟨run, R, g1, g2, g3, g4, g5⟩ := hc.val _ _ _ _ _ _ (hev id h)
    rw [h1] at g1
    injection g1 with g1
    subst g1
    exact ⟨R, g2, g3, g4, g5⟩
  { enter := key.choose.enter
    run := fun _ _ args => match args with | [] => some ⟨True, out, []⟩ | _ => none
    mono := fun _ hr => hr
    sound := by
      intro id h args R hr hob B w0 ρ al w vals H hid hA
      split at hr
      case h_2 => cases hr
      injection hr with hr
      subst hr
      obtain ⟨R, g1, g2, g3, g4⟩ := key.choose_spec id h
      refine (key.choose.sound g1 g2 vals H hid hA).mono fun e w' ⟨v, ρ', al', e1, e2, e3, e4, e5⟩ => ?_
      rw [g3] at e4
      rw [g4] at e5
      exact ⟨v, ρ', al', e1, e2, e3, e4, e5⟩ }
end
end Go.Proofs.YtpdjaabjfhjppaaGreatDoor
