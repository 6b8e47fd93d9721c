/- The value logic, computed: calls to whatever depth, late closures too. No program in sight. -/
import Derived.Test.YtpdjaabjfhjppaaGreatDoorZB
set_option linter.unusedVariables false
set_option linter.unusedSimpArgs false
namespace Go.Proofs.YtpdjaabjfhjppaaGreatDoor
open Go.RowKit
set_option maxRecDepth 100000

noncomputable section
def callG (P : Program) (rs : List ResultVar) (bd : BdK) (id : Nat) (x : Option (List Nat × List AV × List Blk)) : CO := match x with
  | some x => callX x.1.length x.1 id (endX P x.1.length rs (bd x.1.length ⟨x.1.length, zipT 0 x.2.1, zipH 0 x.2.2⟩))
  | none => .no 63
def callC (P : Program) (n : Nat) (rs : List ResultVar) (bd : BdK) (id : Nat) (h : Heap) (args : List AV) : CO := callG P rs bd id (handR n h args)
end
section
variable {P : Program}
theorem callC_mono {n : Nat} {rs : List ResultVar} {bd : BdK} {id : Nat} {h h' : Heap} {args : List AV} (hs : ∀ b k, hget h b = some k → hget h' b = some k) {R : Res} (hr : coRun (callC P n rs bd id h args) = some R) : coRun (callC P n rs bd id h' args) = some R := by
  unfold callC at hr ⊢
  cases hd : handR n h args with
  | none => rw [hd] at hr; cases hr
  | some x => rw [hd] at hr; rw [hand_mono hs hd]; exact hr
/-- A function whose body is computed. -/
noncomputable def mkC2 (f : FuncId) (fn : Func)
    (hen : ∀ (args : Array Value) (w : World), (callFunc f args).run P w = .ok (.enter f args) w)
    (bd : BdK) (hbd : BdOk P f fn bd) : Spec P f where
  enter := hen
  run := fun id h args => coRun (callC P fn.ntmps fn.results.toList bd id h args)
  pan := fun id h args => coPan (callC P fn.ntmps fn.results.toList bd id h args)
  mono := fun hs hr => callC_mono hs hr
  sound := by
    intro id h args R hr hob B w0 ρ al w vals H hid hA
    unfold callC at hr
    cases hd : handR fn.ntmps h args with
    | none => rw [hd] at hr; cases hr
    | some x =>
      obtain ⟨bs, as', ks'⟩ := x
      rw [hd] at hr
      simp only [callG] at hr
      cases he : endX P bs.length fn.results.toList (bd bs.length ⟨bs.length, zipT 0 as', zipH 0 ks'⟩) with
      | no e => rw [he] at hr; cases hr
      | pan v => rw [he] at hr; cases hr
      | ret r hs ns =>
        rw [he] at hr
        injection hr with hr
        subst hr
        obtain ⟨k, s', r0, ho, hk, hret, hlc⟩ := endX_ret he
        have h0 : ¬ al id := hid id (Nat.le_refl _) (by omega)
        obtain ⟨hbs, hnd, hvl, hn0, H1⟩ := handed hd H h0 hA
        refine hbd _ _ _ _ ho (by rintro i rfl; rcases hk with h | h <;> cases h) (by simp [baseR]) rfl H1 ?_ ?_
        · intro _ ρ1 al1 a w1 HS
          obtain ⟨l1, l2, o1, o2, hwk⟩ := left_ok hlc
          obtain ⟨v, g1, g2⟩ := aRet_sound (fn := fn) HS hret
          have HS0 : RepS fn.ntmps (baseR w ρ al bs bs.length id H.gok) w ρ1 al1 ⟨s'.nx, (0, r0) :: s'.t, s'.h⟩ (a.put (some 0) v) w1 :=
            ⟨by rw [put_size]; exact HS.size, by rw [put_defers]; exact HS.defers, TRep.putT HS.t HS.size (d := some 0) (by simpa [dstOk] using hn0) g2, HS.w, HS.al⟩
          obtain ⟨ρ2, al2, HS2⟩ := hwk _ _ _ _ _ _ _ (by simp [baseR]) HS0
          obtain ⟨ρ', al', k1, k2, k3, k4⟩ := leaveRF H (Nat.le_refl _) hid hnd hbs l1 l2 o1 o2 HS2.w HS2.al
          have hv : ARep ρ2 al2 r v := by
            have := HS2.t 0
            have h2 : (a.put (some 0) v).tmps.getD 0 undef = v := by
              have hs : 0 < a.tmps.size := by rw [HS.size]; exact hn0
              simp [Act.put, hs]
            rw [h2] at this
            exact this
          refine ⟨v, g1, v, ρ', al', rfl, k1, k2, hv.fwd k4, ?_⟩
          simpa using k3
        · rintro x rfl
          rcases hk with h | h <;> cases h
  psound := by
    intro id h args ob y E hr hob B w0 ρ al w vals H hid hA
    unfold callC at hr
    cases hd : handR fn.ntmps h args with
    | none => rw [hd] at hr; cases hr
    | some x =>
      obtain ⟨bs, as', ks'⟩ := x
      rw [hd] at hr
      simp only [callG] at hr
      cases he : endX P bs.length fn.results.toList (bd bs.length ⟨bs.length, zipT 0 as', zipH 0 ks'⟩) with
      | no e => rw [he] at hr; cases hr
      | ret r hs ns => rw [he] at hr; cases hr
      | pan v =>
        rw [he] at hr
        injection hr with hr
        injection hr with e1 hr
        injection hr with e2 e3
        subst e1 e2 e3
        obtain ⟨s', ho⟩ := endX_pan he
        have h0 : ¬ al id := hid id (Nat.le_refl _) (by omega)
        obtain ⟨hbs, hnd, hvl, hn0, H1⟩ := handed hd H h0 hA
        refine hbd _ _ _ _ ho (by rintro i h; cases h) (by simp [baseR]) rfl H1 ?_ ?_
        · rintro (h | h) <;> cases h
        · intro z hz ρ1 al1 a w1 HS
          injection hz with hz
          subst hz
          obtain ⟨ρ2, al2, HS2⟩ := (Wk.ren (ro := ⟨none, bs.length⟩) (s := s') (s' := ⟨bs.length, [], zipO 0 (List.replicate bs.length none)⟩) (List.range bs.length) (fun j hj => by rw [List.getElem?_range hj]) (by simp) List.nodup_range (by simp) (by
            intro p hp k hk
            obtain ⟨j, o⟩ := p
            simp only at hk
            subst hk
            have : ∀ (n i j : Nat) (k : Blk), (j, some k) ∉ zipO i (List.replicate n none) := by
              intro n
              induction n with
              | zero => intro i j k hm; simp [zipO] at hm
              | succ n ih => intro i j k hm; simp [List.replicate_succ, zipO] at hm; exact ih _ _ _ hm
            exact absurd hp (this _ _ _ _))) _ _ _ _ _ _ _ (by simp [baseR]) HS
          obtain ⟨ρ', al', k1, k2, k3⟩ := leaveR H (Nat.le_refl _) hid hnd hbs (ns := []) (hs := List.replicate bs.length none) (by simp) (by simp) (by intro k hk; simp [List.mem_replicate] at hk) (by simp) (by simpa [zipH] using HS2.w) (by simpa using HS2.al)
          refine ⟨ρ', al', rfl, k1, k2, k3.sub fun b k hk => ?_⟩
          obtain ⟨h3, h4⟩ := hget_hides hk
          rw [← h4]
          have : ∀ E : Heap, (∀ x ∈ E, x.1 ≠ b) → hget (E ++ h) b = hget h b := by
            intro E
            induction E with
            | nil => intro _; rfl
            | cons x E ih =>
              intro hE
              obtain ⟨c, o⟩ := x
              rw [List.cons_append, hget, if_neg (hE (c, o) (by simp))]
              exact ih fun y hy => hE y (by simp [hy])
          rw [← List.append_assoc]
          refine this _ fun y hy => ?_
          rcases List.mem_append.1 hy with hy | hy
          · simp only [renH, zipH, List.append_nil, List.mem_map] at hy
            obtain ⟨z, hz, rfl⟩ := hy
            have hkz : z.1 ∈ keysOf (zipO 0 (List.replicate bs.length none)) := List.mem_map.2 ⟨z, hz, rfl⟩
            rw [keys_zipO] at hkz
            have hz2 : z.1 < bs.length := by simpa using hkz
            have hz3 : z.1 < bs.length := by omega
            simp only [gOf, if_pos hz2, getD_lt hz3]
            rintro rfl
            exact h3 (List.getElem_mem hz3)
          · obtain ⟨c, hc, rfl⟩ := List.mem_map.1 hy
            rintro rfl
            exact h3 (List.mem_of_mem_drop hc)
end

/-- ranges over functions, computed: K blocks keep their numbers -/
def RgKOk (P : Program) (rg : Nat → Rg) : Prop := ∀ (ctx : Ctx P) (call : Cl) (K n : Nat), ClOk ctx call → RngOk P ⟨none, K⟩ n (rg K call n)
def noRgK : Nat → Rg := fun _ => noRg
theorem noRgK_ok (P : Program) : RgKOk P noRgK := fun ctx call K n hc => noRg_ok P ctx call _ n hc
noncomputable section
variable (P : Program) (ex : List (Sp P)) (ds : List (Df P)) (rg : Nat → Rg)
def findD (g : FuncId) : Option (Df P) := List.rec (motive := fun _ => Option (Df P)) none (fun a _ ih => cond (Nat.beq a.f g) (some a) ih) ds
def codeM (call : Cl) (n : Nat) (c : Code) : BdK := fun K s => cCode P call n (drawC P call n) (rg K call n) c s
def bdM (call : Cl) (fn : Func) (c : Code) : BdK := codeM P rg call fn.ntmps c
def bdD (call : Cl) (d : Df P) : BdK := dfBd d (codeM P rg call d.fn.ntmps d.c0) (codeM P rg call d.fn.ntmps d.rest) (codeM P rg call d.gn.ntmps d.grest)
def callM4 (call : Cl) (fn : Func) (id : Nat) (h : Heap) (args : List AV) (b : Option Code) : CO := match b with
  | some c => cond (nameR fn.name) (callC P fn.ntmps fn.results.toList (bdM P rg call fn c) id h args) (.no 81)
  | none => .no 82
def callM3 (call : Cl) (id : Nat) (h : Heap) (args : List AV) (fn : Option Func) : CO := match fn with
  | some fn => callM4 P rg call fn id h args fn.body
  | none => .no 85
def callM2 (call : Cl) (g : FuncId) (id : Nat) (h : Heap) (args : List AV) (d : Option (Df P)) : CO := match d with
  | some d => callC P d.fn.ntmps d.fn.results.toList (bdD P rg call d) id h args
  | none => callM3 P rg call id h args P.funcs[g]?
def callM1 (call : Cl) (g : FuncId) (id : Nat) (h : Heap) (args : List AV) (sp : Option (Sp P)) : CO := match sp with
  | some sp => spRun P sp id h args
  | none => callM2 P rg call g id h args (findD P ds g)
def callM (k : Nat) : Cl := Nat.rec (motive := fun _ => Cl) (fun _ _ _ _ => .no 80) (fun _ ih g id h args => tagE g (callM1 P ds rg ih g id h args (findX P ex g))) k
end

section
variable {P : Program}
theorem findD_some {ds : List (Df P)} {g : FuncId} {d : Df P} (h : findD P ds g = some d) : d.f = g := by
  induction ds with
  | nil => cases h
  | cons a r ih =>
    have h : cond (Nat.beq a.f g) (some a) (findD P r g) = some d := h
    by_cases e : a.f = g
    · rw [nbt e] at h
      injection h with h
      subst h
      exact e
    · rw [nbf e] at h
      exact ih h

theorem callM_ok (hm : P.follows .mixedOrders = true) (ex : List (Sp P)) (ds : List (Df P)) {rg : Nat → Rg} (hrg : RgKOk P rg) : ∀ k, ∃ ctx : Ctx P, ClOk ctx (callM P ex ds rg k)
  | 0 => ⟨[], ⟨fun g id h args r E he => (by cases he), fun g id h args v E he => (by cases he)⟩⟩
  | k + 1 => by
    obtain ⟨ctx, hc⟩ := callM_ok hm ex ds hrg k
    classical
    obtain ⟨call, hcall⟩ : ∃ call, callM P ex ds rg k = call := ⟨_, rfl⟩
    rw [hcall] at hc
    have hbd : ∀ (n : Nat) (c : Code) K s k s', codeM P rg call n c K s = .go k s' → SW P ⟨none, K⟩ n c s (isQ k s') := fun n c K s k s' h => cCode_ok hc (drawC_ok hc hm) (hrg ctx call K n hc) c s k s' h
    -- how a function that is no special one is called
    let go (g : FuncId) (id : Nat) (h : Heap) (args : List AV) : CO := callM2 P rg call g id h args (findD P ds g)
    have hgo : ∀ g, (∃ s : Spec P g, (∀ id h args, s.run id h args = coRun (go g id h args)) ∧ ∀ id h args, s.pan id h args = coPan (go g id h args)) ∧ g ∈ List.range P.funcs.size ∨ ∀ id h args, ∃ e, go g id h args = .no e := by
      intro g
      show (∃ s : Spec P g, (∀ id h args, s.run id h args = coRun (callM2 P rg call g id h args (findD P ds g))) ∧ ∀ id h args, s.pan id h args = coPan (callM2 P rg call g id h args (findD P ds g))) ∧ _ ∨ ∀ id h args, ∃ e, callM2 P rg call g id h args (findD P ds g) = .no e
      cases hd : findD P ds g with
      | some d =>
        have e := findD_some hd
        subst e
        refine .inl ⟨⟨mkC2 d.f d.fn d.hen (bdD P rg call d) (bdOk_df d (hbd _ _) (hbd _ _) (hbd _ _)), fun id h args => rfl, fun id h args => rfl⟩, ?_⟩
        rw [List.mem_range]
        exact (Array.getElem?_eq_some_iff.1 d.hf).1
      | none =>
        cases hfn : P.funcs[g]? with
        | none => exact .inr fun id h args => ⟨85, by simp only [callM2, hfn, callM3]⟩
        | some fn =>
          cases hb : fn.body with
          | none => exact .inr fun id h args => ⟨82, by simp only [callM2, hfn, callM3, callM4, hb]⟩
          | some c =>
            cases hn : nameR fn.name with
            | false => exact .inr fun id h args => ⟨81, by simp only [callM2, hfn, callM3, callM4, hb, hn, cond_false]⟩
            | true =>
              refine .inl ⟨⟨mkC2 g fn (enter_of hfn hb hn) (bdM P rg call fn c) (bdOk_code hfn hb (hbd _ _)), fun id h args => ?_, fun id h args => ?_⟩, ?_⟩
              · simp only [callM2, hfn, callM3, callM4, hb, hn, cond_true]
                rfl
              · simp only [callM2, hfn, callM3, callM4, hb, hn, cond_true]
                rfl
              · rw [List.mem_range]
                exact (Array.getElem?_eq_some_iff.1 hfn).1
    let mk : ∀ g, Option (Spec P g) := fun g => if h : ∃ s : Spec P g, (∀ id h args, s.run id h args = coRun (go g id h args)) ∧ ∀ id h args, s.pan id h args = coPan (go g id h args) then some h.choose else none
    have hmk : ∀ {g : FuncId} {id : Nat} {h : Heap} {args : List AV} {x : CO}, (∀ e, x ≠ .no e) → go g id h args = x → ∃ s : Spec P g, mk g = some s ∧ g ∈ List.range P.funcs.size ∧ (∀ id h args, s.run id h args = coRun (go g id h args)) ∧ ∀ id h args, s.pan id h args = coPan (go g id h args) := by
      intro g id h args x hx he
      rcases hgo g with ⟨h1, h2⟩ | h1
      · exact ⟨_, dif_pos h1, h2, h1.choose_spec.1, h1.choose_spec.2⟩
      · obtain ⟨e, h1⟩ := h1 id h args
        exact absurd (he.symm.trans h1) (hx e)
    have hlook : ∀ {g : FuncId} {id : Nat} {h : Heap} {args : List AV} {x : CO}, (∀ e, x ≠ .no e) → callM P ex ds rg (k + 1) g id h args = x →
        (∃ sp, findX P ex g = some sp ∧ spRun P sp id h args = x) ∨ (findX P ex g = none ∧ go g id h args = x) := by
      intro g id h args x hx he
      have he : tagE g (callM1 P ds rg (callM P ex ds rg k) g id h args (findX P ex g)) = x := he
      rw [hcall] at he
      have untag : ∀ y, tagE g y = x → y = x := by
        intro y hy
        cases y with
        | val r E => exact hy
        | pan v E => exact hy
        | no e => exact absurd hy.symm (hx _)
      have he := untag _ he
      cases hf : findX P ex g with
      | some sp => rw [hf] at he; exact .inl ⟨sp, rfl, he⟩
      | none => rw [hf] at he; exact .inr ⟨rfl, he⟩
    refine ⟨exCtx ex ++ ctxL mk (List.range P.funcs.size), ⟨fun g id h args r E he => ?_, fun g id h args v E he => ?_⟩⟩
    · rcases hlook (by simp) he with ⟨sp, h1, h2⟩ | ⟨h0, h4⟩
      · refine ⟨sp.spec.run, ?_⟩
        unfold spRun at h2
        cases hR : sp.spec.run id h args with
        | none => rw [hR] at h2; cases h2
        | some R =>
          rw [hR] at h2
          simp only [spR] at h2
          cases ho : sp.ob id h args
          · rw [ho] at h2; cases h2
          · rw [ho] at h2
            injection h2 with e1 e2
            exact ⟨R, exCtx_run h1 _, rfl, sp.ok ho hR, e1, e2⟩
      · obtain ⟨s, g1, g3, g2, -⟩ := hmk (by simp) h4
        refine ⟨s.run, ⟨True, r, E⟩, ?_, ?_, trivial, rfl, rfl⟩
        · rw [(exCtx_no h0 _).1]
          exact (ctxL_run g1 g3).1
        · rw [g2, h4]
          rfl
    · rcases hlook (by simp) he with ⟨sp, h1, h2⟩ | ⟨h0, h4⟩
      · exfalso
        unfold spRun spR at h2
        cases hR : sp.spec.run id h args with
        | none => rw [hR] at h2; cases h2
        | some R =>
          rw [hR] at h2
          simp only at h2
          cases ho : sp.ob id h args <;> rw [ho] at h2 <;> cases h2
      · obtain ⟨s, g1, g3, -, g2⟩ := hmk (by simp) h4
        refine ⟨s.pan, True, ?_, ?_, trivial⟩
        · rw [(exCtx_no h0 _).2]
          exact (ctxL_run g1 g3).2
        · rw [g2, h4]
          rfl
end
end Go.Proofs.YtpdjaabjfhjppaaGreatDoor
