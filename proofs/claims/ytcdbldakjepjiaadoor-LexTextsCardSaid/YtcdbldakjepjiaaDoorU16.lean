/- The value logic with lasting memory, part 16: a function that is called late and catches a panic. No program in sight. -/
import Derived.Test.YtcdbldakjepjiaaDoorU15
import Derived.RecoverIn
set_option linter.unusedVariables false
set_option linter.unusedSimpArgs false
namespace Go.Proofs.YtcdbldakjepjiaaDoor
open Go.RowKit

section
variable {P : Program}

/-- The marks among a leaving frame's late calls are taken off, whatever kind of frame. -/
theorem marks_steps {F : Fence} {n : Nat} {N : Nat} : ∀ (rs : List Nat) (fr : Frame) (cs : List Frame) (w : World), fr.mode ≠ .run → fr.defers = rs.map mark → F.fn fr.fn → F.room (cs.length + 1 + n) → rs.Nodup →
    (∀ r ∈ rs, N ≤ r ∧ w.heap[r]? = some (.deferred (some []))) → ∃ w', Unmark N w w' ∧ StepsIn (Machine.fenced P F) P (lone fr cs w) (lone { fr with defers := [] } cs w')
  | [], fr, cs, w, _, hd, _, _, _, _ => ⟨w, .refl N w, by
      have : ({ fr with defers := [] } : Frame) = fr := by
        cases fr; simp only [List.map_nil] at hd; subst hd; rfl
      rw [this]; exact StepsIn.refl _⟩
  | r :: rs, fr, cs, w, hm, hd, hb, hroom, hnd, hr => by
    have h0 := hr r (by simp)
    rw [List.nodup_cons] at hnd
    have hlt : r < w.heap.size := (Array.getElem?_eq_some_iff.1 h0.2).1
    have hU : Unmark N w (w.putObj r (.deferred none)) := ⟨rfl, rfl, rfl, by simp [World.putObj], fun k hk => by
      refine World.putObj_heap_other ?_
      rintro rfl
      rcases hk with hk | ⟨o, h1, h2⟩
      · omega
      · rw [h0.2] at h1; injection h1 with h1; subst h1; cases h2⟩
    have h1 := step_collected (P := P) (cs := cs) hm hd rfl (run_takeDeferred h0.2)
    have i1 : (lone fr cs w).fenced P F := fenced_out hb hroom hm hd (fun g hg => by simp [mark, Target.leads] at hg)
    obtain ⟨w', g1, g2⟩ := marks_steps rs { fr with defers := [] ++ rs.map mark } cs (w.putObj r (.deferred none)) hm rfl hb hroom hnd.2 (fun q hq => by
      have := hr q (by simp [hq])
      refine ⟨this.1, ?_⟩
      rw [World.putObj_heap_other (by rintro rfl; exact hnd.1 hq)]
      exact this.2)
    exact ⟨w', hU.trans g1, .head i1 h1 g2⟩

/-- what the body of a late-called function must achieve, marks and all -/
def bodyPostSM (P : Program) (N : Nat) (fn : Func) (c₀ : Frame) (cs : List Frame) (R : Ending → FrameMode → World → Prop) : Exit → Act → List Frame → World → Prop
  | .normal, a, cs', w | .ret, a, cs', w => ∃ rs : List Nat, rs.Nodup ∧ a.defers = rs.map mark ∧ (∀ r ∈ rs, N ≤ r ∧ w.heap[r]? = some (.deferred (some []))) ∧
      ∃ u', cs' = { c₀ with mode := u' } :: cs ∧ ∀ w', Unmark N w w' → ∃ v, (results fn a.tmps).run P w' = .ok v w' ∧ R (.returned v) u' w'
  | _, _, _, _ => False

theorem callsDIn_marks {F : Fence} {n N : Nat} {f : FuncId} {fn : Func} {c : Code} {args : Array Value} {u : FrameMode} {w : World} {R : Ending → FrameMode → World → Prop}
    (hf : P.funcs[f]? = some fn) (hb : fn.body = some c) (hF : F.fn f)
    (h : ∀ (c₀ : Frame) (cs : List Frame), c₀.mode = u → c.wpSIn F n P (bodyPostSM P N fn c₀ cs R) { tmps := args ++ Array.replicate (fn.ntmps - args.size) undef, defers := [] } (c₀ :: cs) w) :
    CallsDIn F n P f args u w R := by
  refine ⟨hF, fun c₀ cs hu hroom => ?_⟩
  let b : Frame := { (default : Frame) with fn := f, kind := .deferred, roundOf := none }
  have henter : Frame.enter P f args .deferred =
      b.atR { tmps := args ++ Array.replicate (fn.ntmps - args.size) undef, defers := [] } [.code c] := by
    simp [Frame.enter, Frame.atR, hf, hb, b]
  obtain ⟨e, a', cs', w', hl, hq, harr⟩ := h c₀ cs hu b [] rfl rfl hF hroom
  rw [← henter] at harr
  cases e with
  | normal =>
    obtain ⟨rs, h1, h2, h3, u', rfl, h4⟩ := hq
    obtain ⟨w2, g1, g2⟩ := marks_steps (P := P) (F := F) (n := n) rs { b.atR a' [] with mode := .returning } ({ c₀ with mode := u' } :: cs) w' (by simp) h2 hF hroom h1 h3
    obtain ⟨v, g3, g4⟩ := h4 w2 g1
    exact ⟨.returned v, u', w2, _, g4, StepsIn.trans harr (.head (fenced_calm (fr := b.atR a' []) hF hroom rfl) (stepR_end rfl) g2), rfl, rfl, rfl, rfl, fn, hf, g3⟩
  | ret =>
    obtain ⟨rs, h1, h2, h3, u', rfl, h4⟩ := hq
    obtain ⟨todo, hs⟩ := harr.1 rfl
    obtain ⟨w2, g1, g2⟩ := marks_steps (P := P) (F := F) (n := n) rs { b.atR a' todo with mode := .returning } ({ c₀ with mode := u' } :: cs) w' (by simp) h2 hF hroom h1 h3
    obtain ⟨v, g3, g4⟩ := h4 w2 g1
    exact ⟨.returned v, u', w2, _, g4, StepsIn.trans hs g2, rfl, rfl, rfl, rfl, fn, hf, g3⟩
  | panic chain => exact hq.elim
  | exit id => exact hq.elim
  | goto l => exact hq.elim
  | outgrown => exact hq.elim

/-- the frame below: how it was, what is caught, how it is then -/
inductive Caught : FrameMode → Value → FrameMode → Prop where
  | none : Caught .returning .nilIface .returning
  | some (x : Value) : Caught (.panicking [{ v := x, recovered := false }]) x (.panicking [{ v := x, recovered := true }])

theorem Caught.settle {u u' : FrameMode} {x : Value} (h : Caught u x u') : settle u' = .returning := by
  cases h <;> rfl

/-- A function that is called late and begins with recover. -/
theorem catches {g : FuncId} {fn : Func} {rid : Nat} {o : Oper} {t : Tmp} {rest : Code} (hf : P.funcs[g]? = some fn) (hb : fn.body = some (.seq (.region rid #[o] false) rest))
    (hop : o.op = .call { callee := .builtin .recover, args := #[], argTypes := #[] }) (hg : o.guard = none) (hd : o.dst = some t) (hres : fn.results = #[])
    {K : Nat} {B : Base} {w1 : World} {ρ : Nat → Loc} {al : Al} {h : Heap} {nx : Nat} (hds : B.ds = []) (hpl : B.pl.length = K) (H : WRep B w1 ρ al h w1) (hal : ∀ b, al b → b < nx)
    {as : List AV} {vals : List Value} (hA : AsRep ρ al as vals) (hn : vals.length ≤ fn.ntmps) (htn : t < fn.ntmps) {u u' : FrameMode} {x : Value} (hu : Caught u x u') {post : St → Prop}
    (hsw : SW P ⟨none, K⟩ fn.ntmps rest ⟨nx, (t, .s (.l (.v x))) :: zipT 0 as, h⟩ (endQ post fun _ _ => False)) :
    CallsDIn (Fw ⟨none, K⟩) 0 P g vals.toArray u w1 fun e u2 w2 => u2 = u' ∧ (∃ v, e = .returned v) ∧ ∃ ρ2 al2 s2, post s2 ∧ WRep B w1 ρ2 al2 s2.h w2 ∧ ∀ b, al2 b → b < s2.nx := by
  refine callsDIn_marks (N := w1.heap.size) hf hb trivial fun c₀ cs hm => wpSIn_seq (wpSIn_region ?_)
  have hsz : (vals.toArray ++ Array.replicate (fn.ntmps - vals.toArray.size) undef).size = fn.ntmps := by simp; omega
  have hrec : ∃ cs', cs' = { c₀ with mode := u' } :: cs ∧ ∀ (Q : Exit → Act → List Frame → World → Prop) (a : Act), Q .normal (a.put o.dst x) cs' w1 → wpOpsSIn (Fw ⟨none, K⟩) 0 P #[o] Q [0] a (c₀ :: cs) w1 := by
    refine ⟨_, rfl, fun Q a hQ => ?_⟩
    have hw : Region.wanted o (yielded #[o] a.tmps) = true := by unfold Region.wanted; rw [hg]
    simp only [wpOpsSIn, List.getElem?_toArray, List.getElem?_cons_zero]
    refine ⟨fun _ _ => trivial, ?_⟩
    rw [if_pos hw]
    have he : (execOp a.eval o).run P w1 = .ok .recover w1 := by simp [execOp, hop]; rfl
    rw [he]
    cases hu with
    | none =>
      simp only [recoverD, hm]
      have : ({ c₀ with mode := .returning } : Frame) = c₀ := by cases c₀; simp only at hm; subst hm; rfl
      rw [this] at hQ
      exact hQ
    | some x =>
      simp only [recoverD, hm]
      exact hQ
  obtain ⟨cs', hcs, hrec⟩ := hrec
  refine hrec _ _ (wpSIn_of_wpIn rfl ?_)
  let a0 : Act := { tmps := vals.toArray ++ Array.replicate (fn.ntmps - vals.toArray.size) undef, defers := [] }
  have H0 : RepS fn.ntmps B w1 ρ al ⟨nx, (t, .s (.l (.v x))) :: zipT 0 as, h⟩ (a0.put o.dst x) w1 := by
    refine ⟨by rw [hd]; simp [Act.put, a0]; omega, by rw [hd]; exact hds ▸ Marks.nil _ _ _, ?_, H, hal⟩
    rw [hd]
    exact TRep.put (enter_t hA _) (by rw [hsz]; exact htn) (show ARep ρ al (.s (.l (.v x))) x from rfl)
  refine wpIn_mono (hsw B w1 ρ al _ w1 hpl H0) ?_
  rintro e a' w' ⟨ρ2, al2, s2, H2, hq⟩
  have fin : post s2 → bodyPostSM P w1.heap.size fn c₀ cs (fun e u2 w2 => u2 = u' ∧ (∃ v, e = .returned v) ∧ ∃ ρ2 al2 s2, post s2 ∧ WRep B w1 ρ2 al2 s2.h w2 ∧ ∀ b, al2 b → b < s2.nx) .ret a' cs' w' := by
    intro hp
    obtain ⟨rs, h1, h2, h3⟩ := H2.defers
    rw [hds, List.append_nil] at h2
    refine ⟨rs, h1, h2, h3, u', hcs, fun w3 hU => ⟨.tuple #[], by simp [results, hres], rfl, ⟨_, rfl⟩, ρ2, al2, s2, hp, (H2.unmark hU).w, H2.al⟩⟩
  cases e with
  | normal => exact fin hq
  | ret => exact fin hq
  | panic ch => obtain ⟨_, _, hp⟩ := hq; exact hp.elim
  | exit _ => exact hq.elim
  | goto _ => exact hq.elim
  | outgrown => exact hq.elim

/-- pointers to the first blocks -/
def pvs (js : List Nat) : List AV := js.map fun j => .s (.l (.p j 0 0))

theorem pvs_rep {ρ ρ' : Nat → Loc} {al al' : Al} {K : Nat} (h : ∀ j, j < K → al' j ∧ ρ' j = ρ j) : ∀ {js : List Nat} {vals : List Value}, (∀ j ∈ js, j < K) → AsRep ρ al (pvs js) vals → AsRep ρ' al' (pvs js) vals
  | [], [], _, _ => trivial
  | [], _ :: _, _, hA => hA.elim
  | _ :: _, [], _, hA => hA.elim
  | j :: js, v :: vs, hj, ⟨⟨_, a⟩, b⟩ => by
    obtain ⟨g1, g2⟩ := h j (hj j (by simp))
    exact ⟨⟨g1, by rw [g2]; exact a⟩, pvs_rep h (fun i hi => hj i (by simp [hi])) b⟩

/-- a piece of code that lays one late call -/
def Lays (P : Program) (n : Nat) (D : Code) (s1 : St) (t2 : Tmps) (g : FuncId) (js : List Nat) : Prop :=
  ∀ K B w0 ρ al a w, RepS n B w0 ρ al s1 a w → ∃ (d : Deferred) (fv : Fn) (cap : Array Value) (vals : List Value) (a' : Act), D.wpIn (Fw ⟨none, K⟩) 0 P (fun e a2 w2 => e = .normal ∧ a2 = a' ∧ w2 = w) a w ∧
    a'.defers = d :: a.defers ∧ a'.tmps.size = n ∧ TRep ρ al t2 a'.tmps ∧ d.target = .fn fv cap ∧ (∀ w, (invoke d.target d.args).run P w = .ok (.enter g vals.toArray) w) ∧ AsRep ρ al (pvs js) vals

/-- A function that lays one late call, which catches what panics. -/
theorem calls_defer {f : FuncId} {fn : Func} {c0 D rest : Code} (hf : P.funcs[f]? = some fn) (hb : fn.body = some (.seq c0 (.seq D rest)))
    {g : FuncId} {gn : Func} {rid : Nat} {o : Oper} {t : Tmp} {grest : Code} (hgf : P.funcs[g]? = some gn) (hgb : gn.body = some (.seq (.region rid #[o] false) grest))
    (hop : o.op = .call { callee := .builtin .recover, args := #[], argTypes := #[] }) (hog : o.guard = none) (hod : o.dst = some t) (hgres : gn.results = #[]) (htn : t < gn.ntmps)
    {K : Nat} {B : Base} {w : World} {ρ : Nat → Loc} {al : Al} {s0 s1 : St} {t2 : Tmps} {js : List Nat} (hjs : ∀ j ∈ js, j < K) (hjn : js.length ≤ gn.ntmps) {vals : List Value} {post post2 : St → Prop} {pp : Value → St → Prop} {cells : List (Tmp × Nat)} (hck : ∀ p ∈ cells, p.2 < K) {R : Ending → World → Prop}
    (hpl : B.pl = []) (hds : B.ds = []) (H : RepS fn.ntmps B w ρ al s0 { tmps := vals.toArray ++ Array.replicate (fn.ntmps - vals.toArray.size) undef, defers := [] } w)
    (h0 : SW P ⟨none, 0⟩ fn.ntmps c0 s0 (fun e s => e = .normal ∧ Wk ⟨none, 0⟩ s s1)) (hD : Lays P fn.ntmps D s1 t2 g js) (hK : ∀ j, j < K → ∃ k, hget s1.h j = some k)
    (h1 : SW P ⟨none, K⟩ fn.ntmps rest ⟨s1.nx, t2, s1.h⟩ (endQ post pp)) (hcell : ∀ s, post s → ∀ p ∈ cells, tget s.t p.1 = .s (.l (.p p.2 0 0))) (hcellp : ∀ x s, pp x s → ∀ p ∈ cells, tget s.t p.1 = .s (.l (.p p.2 0 0)))
    (hc0 : ∀ s, post s → SW P ⟨none, K⟩ gn.ntmps grest ⟨s.nx, (t, .s (.l (.v .nilIface))) :: zipT 0 (pvs js), s.h⟩ (endQ post2 fun _ _ => False))
    (hc1 : ∀ x s, pp x s → SW P ⟨none, K⟩ gn.ntmps grest ⟨s.nx, (t, .s (.l (.v x))) :: zipT 0 (pvs js), s.h⟩ (endQ post2 fun _ _ => False))
    (hret : ∀ s ρ al a w1, post2 s → RepS fn.ntmps B w ρ al ⟨s.nx, cells.map fun p => (p.1, .s (.l (.p p.2 0 0))), s.h⟩ a w1 → ∃ v, (results fn a.tmps).run P w1 = .ok v w1 ∧ R (.returned v) w1) : Calls P f vals.toArray w R := by
  refine (callsIn_fw (ro := ⟨none, K⟩) (n := 0)).1 (callsIn_of_wp_marks hf hb trivial ?_ rfl)
  refine wpIn_seq (wpIn_mono (h0 B w ρ al _ w (by rw [hpl]; rfl) H) ?_)
  rintro e a1 w1 ⟨ρ', al', s', H', rfl, hwk⟩
  obtain ⟨ρ1, al1, H1⟩ := hwk _ B w ρ' al' a1 w1 (by rw [hpl]; rfl) H'
  obtain ⟨d, fv, cap, cvals, a', g1, g2, g3, g4, g5, g6, g7⟩ := hD K B w ρ1 al1 a1 w1 H1
  refine wpIn_seq (wpIn_mono g1 ?_)
  rintro e a2 w2 ⟨rfl, rfl, rfl⟩
  let B1 : Base := ⟨B.S, al1.M, (List.range K).map ρ1, d :: a1.defers, H1.w.gok⟩
  have hpins : ∀ {j l}, B1.pl[j]? = some l → j < K ∧ ρ1 j = l := by
    intro j l hj
    simp only [B1, List.getElem?_map, Option.map_eq_some_iff] at hj
    obtain ⟨j', e1, e2⟩ := hj
    have hj3 : j < K := by
      rcases Nat.lt_or_ge j K with h | h
      · exact h
      · rw [List.getElem?_eq_none (by simpa using h)] at e1; cases e1
    rw [List.getElem?_range hj3] at e1
    injection e1 with e1
    subst e1
    exact ⟨hj3, e2⟩
  have hpin : ∀ {j}, j < K → B1.pl[j]? = some (ρ1 j) := by
    intro j hj
    simp only [B1, List.getElem?_map, List.getElem?_range hj, Option.map_some]
  have Hb : RepS fn.ntmps B1 w2 ρ1 al1 ⟨s1.nx, t2, s1.h⟩ a2 w2 := by
    refine ⟨g3, by rw [g2]; exact Marks.nil _ _ _, g4, ?_, H1.al⟩
    have hr := H1.w.rebase
    refine ⟨hr.base, hr.below, hr.blk, hr.own, hr.old, hr.apart, hr.mem, hr.memOwn, hr.memNew, hr.memOld, fun j l hj => ?_⟩
    obtain ⟨e1, e2⟩ := hpins hj
    obtain ⟨k, hk⟩ := hK j e1
    exact ⟨(H1.w.blk j k hk).here, e2⟩
  refine wpIn_mono (h1 B1 w2 ρ1 al1 a2 w2 (by simp [B1]) Hb) ?_
  rintro e a3 w3 ⟨ρ3, al3, s3, H3, hq⟩
  obtain ⟨rs, k1, k2, k3⟩ := H3.defers
  have hp3 : ∀ j, j < K → al3 j ∧ ρ3 j = ρ1 j := fun j hj => H3.w.pins j _ (hpin hj)
  have door : ∀ u u' x, Caught u x u' → u ≠ .run → SW P ⟨none, K⟩ gn.ntmps grest ⟨s3.nx, (t, .s (.l (.v x))) :: zipT 0 (pvs js), s3.h⟩ (endQ post2 fun _ _ => False) → (∀ p ∈ cells, tget s3.t p.1 = .s (.l (.p p.2 0 0))) →
      LeavesInM (Fw ⟨none, K⟩) 0 P fn a3.tmps R a3.defers u w3 := by
    intro u u' x hu hrun hsw hcl
    rw [k2]
    refine leaves_marks hrun rs w3 k1 k3 fun w4 hU => ?_
    have H4 := H3.unmark hU
    have hA : AsRep ρ3 al3 (pvs js) cvals := pvs_rep hp3 hjs g7
    have hlen : cvals.length ≤ gn.ntmps := by
      have : ∀ {js : List Nat} {vs : List Value}, AsRep ρ1 al1 (pvs js) vs → vs.length = js.length := by
        intro js
        induction js with
        | nil => intro vs h; cases vs with
          | nil => rfl
          | cons _ _ => exact h.elim
        | cons j js ih => intro vs h; cases vs with
          | nil => exact h.elim
          | cons v vs => rw [List.length_cons, List.length_cons, ih h.2]
      rw [this g7]; exact hjn
    have H4r : WRep ⟨B.S, al3.M, (List.range K).map ρ1, [], H4.w.gok⟩ w4 ρ3 al3 s3.h w4 := by
      have hr := H4.w.rebase
      exact ⟨hr.base, hr.below, hr.blk, hr.own, hr.old, hr.apart, hr.mem, hr.memOwn, hr.memNew, hr.memOld, hr.pins⟩
    refine ⟨hrun, .inr ⟨fun h => by simp [Fw, Fence.wide] at h, fv, cap, g, cvals.toArray, g5, g6 w4, fun _ _ => trivial, CallsDIn.mono (catches hgf hgb hop hog hod hgres rfl (by simp) H4r H3.al hA hlen htn hu hsw) ?_⟩⟩
    rintro e u2 w5 ⟨rfl, ⟨v, rfl⟩, ρ5, al5, s5, hp, H5, hal5⟩
    show LeavesInM _ _ _ _ _ _ _ (settle _) _
    rw [hu.settle]
    obtain ⟨rs1, m1, m2, m3⟩ := H1.defers
    rw [hds, List.append_nil] at m2
    have hmk : ∀ r ∈ rs1, w.heap.size ≤ r ∧ w5.heap[r]? = some (.deferred (some [])) := fun r hr => ⟨(m3 r hr).1, H5.below.others r _ (H4.w.below.others r _ (m3 r hr).2 rfl) rfl⟩
    rw [m2, ← List.append_nil (rs1.map mark)]
    refine leaves_marks (by simp) rs1 w5 m1 hmk fun w6 hU2 => ?_
    have W5 : WRep B w ρ5 al5 s5.h w5 := by
      have u1 : WRep B1 w2 ρ5 al5 s5.h w5 := H4.w.unbase (g := H4.w.gok) ⟨H5.base, H5.below, H5.blk, H5.own, H5.old, H5.apart, H5.mem, H5.memOwn, H5.memNew, H5.memOld, H5.pins⟩
      exact H1.w.unbase (g := H1.w.gok) ⟨u1.base, u1.below, u1.blk, u1.own, u1.old, u1.apart, u1.mem, u1.memOwn, u1.memNew, u1.memOld, fun j l hj => by rw [hpl] at hj; simp at hj⟩
    have hp5 : ∀ j, j < K → al5 j ∧ ρ5 j = ρ3 j := fun j hj => by
      have := H5.pins j _ (hpin hj)
      exact ⟨this.1, this.2.trans (hp3 j hj).2.symm⟩
    have R5 : RepS fn.ntmps B w ρ5 al5 ⟨s5.nx, cells.map fun p => (p.1, .s (.l (.p p.2 0 0))), s5.h⟩ { a3 with defers := rs1.map mark } w5 := by
      refine ⟨H3.size, ⟨rs1, m1, by rw [hds, List.append_nil], hmk⟩, ?_, W5, hal5⟩
      intro k
      rcases tget_mem (t := cells.map fun p => (p.1, AV.s (.l (.p p.2 0 0)))) (k := k) rfl with h | h
      · rw [h]; trivial
      · obtain ⟨p, hp1, hp2⟩ := List.mem_map.1 h
        injection hp2 with e1 e2
        have h3 := H3.t k
        rw [← e1, hcl p hp1] at h3
        obtain ⟨b1, b2⟩ := hp5 p.2 (hck p hp1)
        rw [← e2, ← e1]
        exact ⟨b1, by rw [b2]; exact h3.2⟩
    obtain ⟨v, q1, q2⟩ := hret s5 ρ5 al5 _ w6 hp (R5.unmark hU2)
    exact ⟨v, q1, q2⟩
  cases e with
  | normal => exact door .returning _ _ .none (by simp) (hc0 s3 hq) (hcell s3 hq)
  | ret => exact door .returning _ _ .none (by simp) (hc0 s3 hq) (hcell s3 hq)
  | panic ch =>
    obtain ⟨x, rfl, hp⟩ := hq
    exact door _ _ _ (.some x) (by simp) (hc1 x s3 hp) (hcellp x s3 hp)
  | exit _ => exact hq.elim
  | goto _ => exact hq.elim
  | outgrown => exact hq.elim

/-- how a function ends, whatever its way there -/
def Does (P : Program) (f : FuncId) (fn : Func) (s0 : St) (o : PO) : Prop :=
  ∀ {B : Base} {w : World} {ρ : Nat → Loc} {al : Al} {vals : List Value} {R : Ending → World → Prop}, B.pl = [] → B.ds = [] →
    RepS fn.ntmps B w ρ al s0 { tmps := vals.toArray ++ Array.replicate (fn.ntmps - vals.toArray.size) undef, defers := [] } w →
    (∀ s ρ al a w1, retQ s.h o (aRet P fn.results.toList s) → RepS fn.ntmps B w ρ al s a w1 → ∃ v, (results fn a.tmps).run P w1 = .ok v w1 ∧ R (.returned v) w1) →
    (∀ x s ρ al a w1, o = .pan x → RepS fn.ntmps B w ρ al s a w1 → R (.panicked [{ v := x, recovered := false }]) w1) → Calls P f vals.toArray w R

def mkPD {X : Type} (f : FuncId) (fn : Func)
    (hen : ∀ (args : Array Value) (w : World), (callFunc f args).run P w = .ok (.enter f args) w)
    (dec : List AV → Option (Prop × X)) (enc : X → List AV) (out : X → PO)
    (hdec : ∀ {as : List AV} {q : Prop} {x : X}, dec as = some (q, x) → q → (enc x).length ≤ fn.ntmps ∧ ∀ (ρ : Nat → Loc) (al : Al) (vals : List Value), AsRep ρ al as vals → AsRep ρ al (enc x) vals)
    (body : ∀ {as : List AV} {q : Prop} {x : X}, dec as = some (q, x) → q → Does P f fn ⟨0, zipT 0 (enc x), []⟩ (out x)) : Spec P f where
  enter := hen
  run := fun _ h args => runP dec out h args
  pan := fun _ h args => panP dec out h args
  mono := by
    intro id h h' args R hs hr
    unfold runP at hr ⊢
    split at hr
    case h_2 => cases hr
    rename_i p u as hm
    rw [mapT_mono (fun z t hz => AV.toD_mono hs 4 hz) hm]
    exact hr
  sound := by
    intro id h args R hr hob B w0 ρ al w vals H hid hA
    unfold runP at hr
    split at hr
    case h_2 => cases hr
    rename_i p u as hm
    split at hr
    case h_2 => cases hr
    rename_i q x hd
    split at hr
    case h_2 => cases hr
    rename_i r hout
    injection hr with hr
    subst hr
    obtain ⟨hp, hq⟩ := hob
    obtain ⟨hlen, henc⟩ := hdec hd hq
    have hA1 := henc (fun _ => ⟨0, 0, 0, 0, false⟩) ⟨fun _ => False, frzM al.M ρ h u w⟩ vals (views_rep H rfl hm hp (fun _ hc => hc) hA)
    have hl := hA1.length
    refine body hd hq (B := ⟨fun k => k < w.heap.size, frzM al.M ρ h u w, [], [], gokP H u⟩) (ρ := fun _ => ⟨0, 0, 0, 0, false⟩) (al := ⟨fun _ => False, frzM al.M ρ h u w⟩) rfl rfl ⟨by simp; omega, Marks.nil _ _ _, enter_t hA1 _, enterP H u, fun b hb => hb.elim⟩ ?_ ?_
    · intro s ρ1 al1 a w1 hq1 H1
      obtain ⟨r0, q1, u1, r1, h1, h2, h3, h4⟩ := retQ_some hq1
      rw [hout] at h4
      injection h4 with h4
      subst h4
      obtain ⟨v, g1, g2⟩ := aRet_sound (fn := fn) H1 h1
      refine ⟨v, g1, ?_⟩
      have g3 := AV.toD_rep (U := u1) (ρ2 := ρ) (al2 := ⟨al.p, frzM al1.M ρ1 s.h u1 w1⟩) H1.w rfl h2 h3 (fun _ hc => hc) g2
      by_cases hpl : r.plain = true
      · refine ⟨v, ρ, al, rfl, .refl _ _, fun b hb => .inl hb, g3.plain hpl, ?_⟩
        unfold hides
        rw [if_pos hpl]
        exact leaveP H H1.w
      · obtain ⟨g4, g5⟩ := leaveD (U1 := u1) H H1.w
        refine ⟨v, ρ, _, rfl, g4, fun b hb => .inl hb, g3, ?_⟩
        unfold hides
        rw [if_neg hpl]
        exact g5
    · intro y s ρ1 al1 a w1 h1 H1
      rw [hout] at h1; cases h1
  psound := by
    intro id h args ob y E hr hob B w0 ρ al w vals H hid hA
    unfold panP at hr
    split at hr
    case h_2 => cases hr
    rename_i p u as hm
    split at hr
    case h_2 => cases hr
    rename_i q x hd
    split at hr
    case h_1 => cases hr
    rename_i v hout
    injection hr with hr
    injection hr with e1 hr
    injection hr with e2 e3
    subst e1
    subst e2
    subst e3
    obtain ⟨hp, hq⟩ := hob
    obtain ⟨hlen, henc⟩ := hdec hd hq
    have hA1 := henc (fun _ => ⟨0, 0, 0, 0, false⟩) ⟨fun _ => False, frzM al.M ρ h u w⟩ vals (views_rep H rfl hm hp (fun _ hc => hc) hA)
    have hl := hA1.length
    refine body hd hq (B := ⟨fun k => k < w.heap.size, frzM al.M ρ h u w, [], [], gokP H u⟩) (ρ := fun _ => ⟨0, 0, 0, 0, false⟩) (al := ⟨fun _ => False, frzM al.M ρ h u w⟩) rfl rfl ⟨by simp; omega, Marks.nil _ _ _, enter_t hA1 _, enterP H u, fun b hb => hb.elim⟩ ?_ ?_
    · intro s ρ1 al1 a w1 hq1 H1
      obtain ⟨r0, q1, u1, r1, h1, h2, h3, h4⟩ := retQ_some hq1
      rw [hout] at h4; cases h4
    · intro y' s ρ1 al1 a w1 h1 H1
      rw [hout] at h1
      injection h1 with h1
      subst h1
      exact ⟨ρ, al, rfl, .refl _ _, fun b hb => .inl hb, leaveP H H1.w⟩


/-- a closure is laid as a late call -/
theorem lays_closure {n : Nat} {rid : Nat} {oM oD : Oper} {tc : Tmp} {g : FuncId} {caps : Array Operand} {js : List Nat} {s1 : St} (hM : oM.op = .makeFunc (.func g) #[] caps) (hMd : oM.dst = some tc) (hMg : oM.guard = none)
    (hD : oD.op = .defer { callee := .value (.tmp tc), args := #[], argTypes := #[] }) (hDd : oD.dst = none) (hDg : oD.guard = none) (htc : tc < n) (hen : ∀ (args : Array Value) (w : World), (callFunc g args).run P w = .ok (.enter g args) w)
    (hcaps : caps.toList.map (evT s1.t) = pvs js) : Lays P n (.region rid #[oM, oD] false) s1 ((tc, .s (.l .any)) :: s1.t) g js := by
  intro K B w0 ρ al a w H
  let fv : Value := .func (.func g) #[] (caps.map a.eval)
  let a1 : Act := a.put (some tc) fv
  let d : Deferred := { target := .fn (.func g) (caps.map a.eval), args := #[] }
  have hsz : a1.tmps.size = n := by simp only [a1, Act.put, Array.size_setIfInBounds]; exact H.size
  refine ⟨d, .func g, caps.map a.eval, caps.toList.map a.eval, { a1 with defers := d :: a.defers }, ?_, rfl, hsz, ?_, rfl, ?_, ?_⟩
  · refine wpIn_region ?_
    have w1 : Region.wanted oM (yielded #[oM, oD] a.tmps) = true := by unfold Region.wanted; rw [hMg]
    have w2 : Region.wanted oD (yielded #[oM, oD] a1.tmps) = true := by unfold Region.wanted; rw [hDg]
    show wpOpsIn _ _ _ _ _ [0, 1] a w
    simp only [wpOpsIn, List.getElem?_toArray, List.getElem?_cons_zero, List.getElem?_cons_succ]
    rw [if_pos w1]
    refine ⟨fun _ _ => trivial, ?_⟩
    have e1 : (oM.semAt (Fw ⟨none, K⟩).round a.eval).run P w = .ok (.value fv) w := by
      rw [show (Fw ⟨none, K⟩).round = none from rfl, Oper.semAt_none]
      simp only [execOp, hM, Instr.makeFunc, Sem.run_bind, Sem.run_pure, Result.andThen_ok]
      simp [fv]
    rw [e1, Oper.uponIn_value, hMd]
    rw [if_pos w2]
    refine ⟨fun _ _ => trivial, ?_⟩
    have hev : a1.eval (.tmp tc) = fv := by
      simp only [Act.eval, a1, Act.put]
      rw [Array.getD_eq_getD_getElem?, Array.getElem?_setIfInBounds_self_of_lt (by rw [H.size]; exact htc)]
      rfl
    have e2 : (oD.semAt (Fw ⟨none, K⟩).round a1.eval).run P w = .ok (.defer d) w := by
      rw [show (Fw ⟨none, K⟩).round = none from rfl, Oper.semAt_none]
      simp only [execOp, hD, resolve, hev, fv, Deferred.ofValue, Sem.run_bind, Sem.run_pure, Result.andThen_ok]
      simp [d]
    rw [show a.put (some tc) fv = a1 from rfl, e2, Oper.uponIn_defer, hDd]
    exact ⟨trivial, rfl, rfl⟩
  · exact TRep.put H.t (by rw [H.size]; exact htc) trivial
  · intro w
    simp [d, invoke, hen]
    rw [← Array.toList_inj]; simp
  · rw [← hcaps]
    have : ∀ l : List Operand, AsRep ρ al (l.map (evT s1.t)) (l.map a.eval) := by
      intro l
      induction l with
      | nil => trivial
      | cons x l ih => exact ⟨evT_rep H.t x, ih⟩
    exact this _
end

/-! interfaces and nil -/
theorem kT_iface {P : Program} {t : TypeId} (h : kT P t = 4) : ∃ ms, P.underlying t = some (.interface ms) := by
  unfold kT at h
  split at h
  all_goals first | (rename_i ms hu; exact ⟨ms, hu⟩) | cases h
theorem run_ifaceEq {P : Program} {t : TypeId} {u v : Value} {x y : Operand} {b : Bool} {w : World} (h1 : binOp .eql t u v = (do pure (.bool (← Op.equal t u v)))) (h3 : (eqGuard .eql t x y u v).run P w = .ok () w) (h4 : ∀ d, (Op.equalIn (d + 1) t u v).run P w = .ok b w) : (do eqGuard .eql t x y u v; binOp .eql t u v : Sem Value).run P w = .ok (.bool b) w := by
  have h5 : (Op.equal t u v).run P w = .ok b w := by
    unfold Op.equal
    rw [show Op.maxDepth = 9999 + 1 from rfl]
    exact h4 9999
  rw [Sem.run_bind, h3, Result.andThen_ok, h1, Sem.run_bind, h5]
  rfl
theorem pure_iface_nil {P : Program} {t u : TypeId} {v c : Value} {x : Operand} (h : kT P t = 4) : pureV P (do eqGuard .eql t x (.const c) (.iface u v) .nilIface; binOp .eql t (.iface u v) .nilIface) = some (.bool false) := by
  obtain ⟨ms, hu⟩ := kT_iface h
  exact pureV_eq fun w => run_ifaceEq rfl rfl (fun d => by simp only [Op.equalIn, Sem.run_bind, run_underlying hu, Result.andThen_ok]; rfl)
theorem pure_nil_nil {P : Program} {t : TypeId} {c : Value} {x : Operand} (h : kT P t = 4) : pureV P (do eqGuard .eql t x (.const c) .nilIface .nilIface; binOp .eql t .nilIface .nilIface) = some (.bool true) := by
  obtain ⟨ms, hu⟩ := kT_iface h
  exact pureV_eq fun w => run_ifaceEq rfl (by cases x <;> rfl) (fun d => by simp only [Op.equalIn, Sem.run_bind, run_underlying hu, Result.andThen_ok]; rfl)

/-- other numbers, by computing -/
theorem Wk.renL {ro : Cf} {s s' : St} (L : List Nat) (hK : ∀ j, j < ro.K → L[j]? = some j) (hn : L.length ≤ s'.nx) (hd : L.Nodup) (ht : s'.t.map (fun p => tget s.t p.1) = s'.t.map fun p => p.2.ren fun b => L.getD b s.nx)
    (hh : s'.h.map (fun p => hget s.h (L.getD p.1 s.nx)) = s'.h.map fun p => p.2.map fun k => k.ren fun b => L.getD b s.nx) : Wk ro s s' :=
  Wk.ren L hK hn hd (fun p hp => List.map_inj_left.1 ht p hp) (fun p hp k hk => by
    have := List.map_inj_left.1 hh p hp
    rw [hk] at this
    exact this)

/-- less is named -/
theorem Wk.sub {ro : Cf} {s s' : St} (hn : s.nx ≤ s'.nx) (ht : s'.t.map (fun p => tget s.t p.1) = s'.t.map (·.2)) (hh : s'.h.map (fun p => hget s.h p.1) = s'.h.map (·.2)) : Wk ro s s' := by
  intro n B w0 ρ al a w hpl H
  refine ⟨ρ, al, H.size, H.defers, ?_, H.w.sub fun b k hk => ?_, fun b hb => Nat.lt_of_lt_of_le (H.al b hb) hn⟩
  · intro k
    rcases tget_mem (t := s'.t) (k := k) rfl with h | h
    · rw [h]; trivial
    · have h2 : tget s.t k = tget s'.t k := List.map_inj_left.1 ht _ h
      rw [← h2]; exact H.t k
  · have := List.map_inj_left.1 hh _ (hget_mem hk)
    exact this

end Go.Proofs.YtcdbldakjepjiaaDoor
