/- Lines: a fixed line; a copy of tokens without their places. -/
import Derived.Test.YtcdbldakjepjiaaDoorWs
import Derived.Test.YtcdbldakjepjiaaDoorLA
set_option linter.unusedVariables false
set_option linter.unusedSimpArgs false
namespace Go.Proofs.YtcdbldakjepjiaaDoor
open Go.RowKit
set_option maxRecDepth 100000

/-! ### A line's tokens, by computing -/
def tokensN : Nat → Nat → List Int → List Tok × Nat × Int
  | 0, p, _ => ([], p, 99)
  | f + 1, p, l =>
    if doneL (l.drop (runL blankB l)) = true then ([], p + l.length, 0) else
    match oneL (l.drop (runL blankB l)) with
    | .error e => ([], p + runL blankB l, e)
    | .ok (t, n) => ({ t with pos := ((p + runL blankB l : Nat) : Int) } :: (tokensN f (p + runL blankB l + n) (l.drop (runL blankB l + n))).1, (tokensN f (p + runL blankB l + n) (l.drop (runL blankB l + n))).2)
theorem tokensN_eq : ∀ (f p : Nat) (l : List Int), l.length < f → tokensN f p l = tokensL p l
  | 0, p, l, h => absurd h (Nat.not_lt_zero _)
  | f + 1, p, l, h => by
    rw [tokensN]
    split
    · rename_i hd; rw [tokensL_done hd]
    · rename_i hd
      have hd' : doneL (l.drop (runL blankB l)) = false := by simpa using hd
      split
      · rename_i e he; rw [tokensL_error hd' he]
      · rename_i t n he
        have h1 : (l.drop (runL blankB l)).length ≠ 0 := fun e => hd (by unfold doneL; rw [e]; rfl)
        have hn := oneL_le h1 he
        rw [tokensL_ok hd' he, tokensN_eq f _ _ (by rw [List.length_drop]; rw [List.length_drop] at h1 hn; omega)]

def begunL : List Int := [108, 100, 114, 32, 120, 48, 44, 32, 91, 120, 49, 44, 32, 35, 48, 120, 49, 48, 93, 33]
def begunT : List Tok := [⟨1, ⟨#[108, 100, 114]⟩, 0, 0⟩, ⟨1, ⟨#[120, 48]⟩, 0, 4⟩, ⟨4, ⟨#[44]⟩, 0, 6⟩, ⟨4, ⟨#[91]⟩, 0, 8⟩, ⟨1, ⟨#[120, 49]⟩, 0, 9⟩, ⟨4, ⟨#[44]⟩, 0, 11⟩, ⟨4, ⟨#[35]⟩, 0, 13⟩, ⟨2, emp, 16, 14⟩, ⟨4, ⟨#[93]⟩, 0, 18⟩, ⟨4, ⟨#[33]⟩, 0, 19⟩]
theorem begun_tokens : tokensN 21 0 begunL = (begunT, 20, 0) := by decide +kernel
theorem begun_lines : linesF (toBytes ⟨#[108, 100, 114, 32, 120, 48, 44, 32, 91, 120, 49, 44, 32, 35, 48, 120, 49, 48, 93, 33]⟩) = (begunT, 20, 0) := by
  have e : toBytes ⟨#[108, 100, 114, 32, 120, 48, 44, 32, 91, 120, 49, 44, 32, 35, 48, 120, 49, 48, 93, 33]⟩ = begunL := rfl
  rw [e]
  unfold linesF
  rw [if_neg (by decide), ← tokensN_eq 21 0 begunL (by decide), begun_tokens]

theorem begun_sw : SW Tryd.prog ⟨none, 0⟩ Tryd.f12.ntmps (Tryd.f12.body.getD .skip) ⟨0, [], []⟩ (outQ Tryd.prog Tryd.f12.results.toList (.ret (bv true))) := by
  refine aRun_sound (ctx := [⟨_, lexS⟩]) 4000 ?_
  rw [Tryd.ntmps12, Tryd.results12]
  simp only [Tryd.f12, Option.getD_some, zipT]
  simp only [go_sem, Nat.reduceOr, Nat.reducePow, Nat.reduceDiv, Nat.reduceMod, Nat.reduceBEq, Int.reduceBEq, Int.reduceBNe, Int.reduceEq, Int.reduceLT, Int.reduceLE, Int.reduceToNat, reduceIte, reduceCtorEq, Nat.reduceEqDiff, Nat.reduceAdd, Nat.reduceLT, Nat.reduceLeDiff, Nat.reduceMul, Nat.reduceSub, lex_run, lex_pan, begun_lines, lexO, toksV, begunT, tokR, pure_flat_eql, orPure_eq, flatEq, flat_tok, eqKs, lit_emp]
theorem en_begun (args : Array Value) (w : World) : (callFunc 12 args).run Tryd.prog w = .ok (.enter 12 args) w := by go_simp
def begunS : Spec Tryd.prog 12 :=
  mk0 _ _ _ Tryd.func12 rfl en_begun  (True) ((.ret (bv true))) (fun _ => begun_sw)
theorem begun_run {id : Nat} {h : Heap} {args : List AV} : (begunS).run id h args = runP (args0  (True)) (fun _ => (.ret (bv true))) h args := rfl
theorem begun_pan {id : Nat} {h : Heap} {args : List AV} : (begunS).pan id h args = panP (args0  (True)) (fun _ => (.ret (bv true))) h args := rfl

/-! ### Functions that hand back a new slice of their own -/
def Blk.flatB (k : Blk) : Bool := k.els.all fun e => e.all (·.flat)
theorem BRep.flat {ρ ρ' : Nat → Loc} {al al' : Al} {w : World} {b b' : Nat} {k : Blk} (hM : al.M.le al'.M) (hl : ρ' b' = ρ b) (ha : al' b') (hf : k.flatB = true) (H : BRep ρ al w b k) : BRep ρ' al' w b' k := by
  obtain ⟨a1, a2, a3, a4, a5, a6, a7⟩ := H
  refine ⟨ha, by rw [hl]; exact a2, by rw [hl]; exact a3, a4, by rw [hl]; exact a5, ?_, by rw [hl]; exact a7⟩
  intro i j x hx
  obtain ⟨y, h1, h2, h3⟩ := a6 i j x hx
  refine ⟨y, by rw [hl]; exact h1, h2, h3.flat hM ?_⟩
  obtain ⟨e, g1, g2⟩ := cellAt_some.1 hx
  unfold Blk.flatB at hf
  rw [List.all_eq_true] at hf
  have := hf e (List.mem_of_getElem? g1)
  rw [List.all_eq_true] at this
  exact this x (List.mem_of_getElem? g2)
def decO {α : Type} (T : Ty α) (q : α → Prop) : List AV → Option (Prop × α)
  | [A] => match T.dec A with | some x => some (q x, x) | none => none
  | _ => none
def runN {α : Type} (dec : List AV → Option (Prop × α)) (n : α → Nat) (k : α → Blk) (id : Nat) (zs : List AV) : Option Res := match dec zs with
  | some (q, x) => some ⟨q, .s (.l (.sl id 0 (n x))), [(id, some (k x))]⟩
  | none => none
def mkO {P : Program} {α : Type} (f : FuncId) (fn : Func) (c : Code) (hf : P.funcs[f]? = some fn) (hb : fn.body = some c)
    (hen : ∀ (args : Array Value) (w : World), (callFunc f args).run P w = .ok (.enter f args) w) (T : Ty α) (hT : ∀ x, (T.enc x).flat = true) (q : α → Prop) (n : α → Nat) (k : α → Blk) (hk : ∀ x, (k x).own = true ∧ (k x).flatB = true) (hn : 1 ≤ fn.ntmps)
    (body : ∀ x, q x → SW P ⟨none, 0⟩ fn.ntmps c ⟨0, zipT 0 [T.enc x], []⟩ (endQ (fun s => ∃ b, aRet P fn.results.toList s = some (.s (.l (.sl b 0 (n x)))) ∧ hget s.h b = some (k x)) (fun _ _ => False))) : Spec P f where
  enter := hen
  run := fun id _ zs => runN (decO T q) n k id zs
  mono := by
    intro id h h' args R hs hr
    exact hr
  sound := by
    intro id h args R hr hob B w0 ρ al w vals H hid hA
    unfold runN at hr
    split at hr
    case h_2 => cases hr
    rename_i q' x hd
    injection hr with hr
    subst hr
    unfold decO at hd
    split at hd
    case h_2 => cases hd
    rename_i A
    split at hd
    case h_2 => cases hd
    rename_i x' hx
    injection hd with hd
    injection hd with e1 e2
    subst e1
    subst e2
    match vals, hA with
    | [v], ⟨a, _⟩ =>
      have hA1 : AsRep (fun _ => ⟨0, 0, 0, 0, false⟩) ⟨fun _ => False, frzM al.M ρ h [] w⟩ [T.enc x'] [v] := ⟨(T.ok hx a).flat (frzM_le) (hT x'), trivial⟩
      refine calls_of_sw (B := ⟨fun k => k < w.heap.size, frzM al.M ρ h [] w, [], [], gokP H []⟩) (ρ := fun _ => ⟨0, 0, 0, 0, false⟩) (al := ⟨fun _ => False, frzM al.M ρ h [] w⟩) (s0 := ⟨0, zipT 0 [T.enc x'], []⟩) hf hb rfl rfl ⟨by simp; omega, Marks.nil _ _ _, enter_t hA1 _, enterP H [], fun b hb => hb.elim⟩ (body x' hob) ?_ ?_
      · intro s ρ1 al1s a w1 hq1 H1
        obtain ⟨b, h1, h2⟩ := hq1
        obtain ⟨v', g1, g2⟩ := aRet_sound (fn := fn) H1 h1
        refine ⟨v', g1, ?_⟩
        obtain ⟨g4, g5⟩ := leaveD (U := []) (U1 := []) H H1.w
        obtain ⟨M2, hM2⟩ : ∃ M2, frzM al1s.M ρ1 s.h [] w1 = M2 := ⟨_, rfl⟩
        rw [hM2] at g4 g5
        have hMle : al1s.M.le M2 := by rw [← hM2]; exact frzM_le
        have hid0 : ¬ (⟨al.p, M2⟩ : Al) id := hid id (Nat.le_refl _) (by omega)
        have E2 : Ext ρ (Go.Proofs.YtcdbldakjepjiaaDoor.ρ1 ρ id (ρ1 b)) ⟨al.p, M2⟩ (al1 ⟨al.p, M2⟩ id) := Ext.new hid0 _
        have e := ρ1_id ρ id (ρ1 b)
        obtain ⟨ho, hfl⟩ := hk x'
        have hB1 := H1.w.blk b _ h2
        have hown := H1.w.own b _ h2 ho
        have hsz : w.heap.size ≤ w1.heap.size := H1.w.below.size
        refine ⟨v', Go.Proofs.YtcdbldakjepjiaaDoor.ρ1 ρ id (ρ1 b), al1 ⟨al.p, M2⟩ id, rfl, g4.trans E2, ?_, ?_, ?_⟩
        · rintro c (hc | rfl)
          · exact .inl hc
          · exact .inr ⟨Nat.le_refl _, by omega⟩
        · obtain ⟨_, A', e1, e2, e3⟩ := g2
          refine ⟨.inr rfl, A', ?_, ?_, ?_⟩
          · rw [e]; exact e1
          · rw [e]; exact e2
          · rw [e]; exact e3
        · have g6 : WRep B w0 ρ ⟨al.p, M2⟩ h w1 := by simpa using g5
          refine (g6.step E2 g6.below (fun _ _ _ _ => rfl) (fun _ _ => rfl)).more (BRep.flat (al := al1s) hMle e (.inr rfl) hfl hB1) ho ?_ ?_ ?_
          · rw [e]
            exact fun hc hS => hown hc (H.size _ hS)
          · rw [e]
            intro hc o
            show M2 _ o = none
            cases hy : M2 (ρ1 b).blk o with
            | none => rfl
            | some y =>
              rw [← hM2] at hy
              rcases frzM_some hy with hy | ⟨⟨c, _, hc, _⟩, _⟩
              · rw [H1.w.memOwn b _ h2 ho hc o] at hy; cases hy
              · cases hc
          · rw [e]
            intro c l hcl hol hcap hne hc2 heq
            have hcne : Go.Proofs.YtcdbldakjepjiaaDoor.ρ1 ρ id (ρ1 b) c = ρ c := by unfold Go.Proofs.YtcdbldakjepjiaaDoor.ρ1; rw [if_neg hne]
            rw [hcne] at hcap heq
            have := (H.blk c l hcl).lt hol hcap
            exact hown hc2 (show (ρ1 b).blk < w.heap.size by rw [← heq]; exact this)
      · intro y s ρ1 al1 a w1 h1 H1
        exact h1.elim
  psound := by
    intro id h args ob y E hr
    cases hr

end Go.Proofs.YtcdbldakjepjiaaDoor
