/- Functions that hand back a new slice of their own. No program in sight. -/
import Derived.Test.YtpdjaabjfhjppaaGreatDoorA0
set_option linter.unusedVariables false
set_option linter.unusedSimpArgs false
namespace Go.Proofs.YtpdjaabjfhjppaaGreatDoor
open Go.RowKit
set_option maxRecDepth 100000

/-! ### Functions that hand back a new slice of their own -/
def Blk.flatB (k : Blk) : Bool := k.els.all fun e => e.all (·.flat)
theorem BRep.flat {ρ ρ' : Nat → Loc} {al al' : Al} {w : World} {b b' : Nat} {k : Blk} (hM : al.M.le al'.M) (hl : ρ' b' = ρ b) (ha : al' b') (hf : k.flatB = true) (H : BRep ρ al w b k) : BRep ρ' al' w b' k := by
  obtain ⟨a1, a2, a3, a4, a5, a6, a7⟩ := H
  refine ⟨ha, by rw [hl]; exact a2, by rw [hl]; exact a3, a4, by rw [hl]; exact a5, ?_, by rw [hl]; exact a7⟩
  intro i j x hx
  obtain ⟨y, h1, h2, h3⟩ := a6 i j x hx
  refine ⟨y, by rw [hl]; exact h1, h2, h3.flat hM ?_⟩
  obtain ⟨e, g1, g2⟩ := cellAt_some.1 hx
  unfold Blk.flatB at hf
  rw [List.all_eq_true] at hf
  have := hf e (List.mem_of_getElem? g1)
  rw [List.all_eq_true] at this
  exact this x (List.mem_of_getElem? g2)
def decO {α : Type} (T : Ty α) (q : α → Prop) : List AV → Option (Prop × α)
  | [A] => match T.dec A with | some x => some (q x, x) | none => none
  | _ => none
def runN {α : Type} (dec : List AV → Option (Prop × α)) (n : α → Nat) (k : α → Blk) (id : Nat) (zs : List AV) : Option Res := match dec zs with
  | some (q, x) => some ⟨q, .s (.l (.sl id 0 (n x))), [(id, some (k x))]⟩
  | none => none
def mkO {P : Program} {α : Type} (f : FuncId) (fn : Func) (c : Code) (hf : P.funcs[f]? = some fn) (hb : fn.body = some c)
    (hen : ∀ (args : Array Value) (w : World), (callFunc f args).run P w = .ok (.enter f args) w) (T : Ty α) (hT : ∀ x, (T.enc x).flat = true) (q : α → Prop) (n : α → Nat) (k : α → Blk) (hk : ∀ x, (k x).own = true ∧ (k x).flatB = true) (hn : 1 ≤ fn.ntmps)
    (body : ∀ x, q x → SW P ⟨none, 0⟩ fn.ntmps c ⟨0, zipT 0 [T.enc x], []⟩ (endQ (fun s => ∃ b, aRet P fn.results.toList s = some (.s (.l (.sl b 0 (n x)))) ∧ hget s.h b = some (k x)) (fun _ _ => False))) : Spec P f where
  enter := hen
  run := fun id _ zs => runN (decO T q) n k id zs
  mono := by
    intro id h h' args R hs hr
    exact hr
  sound := by
    intro id h args R hr hob B w0 ρ al w vals H hid hA
    unfold runN at hr
    split at hr
    case h_2 => cases hr
    rename_i q' x hd
    injection hr with hr
    subst hr
    unfold decO at hd
    split at hd
    case h_2 => cases hd
    rename_i A
    split at hd
    case h_2 => cases hd
    rename_i x' hx
    injection hd with hd
    injection hd with e1 e2
    subst e1
    subst e2
    match vals, hA with
    | [v], ⟨a, _⟩ =>
      have hA1 : AsRep (fun _ => ⟨0, 0, 0, 0, false⟩) ⟨fun _ => False, frzM al.M ρ h [] w⟩ [T.enc x'] [v] := ⟨(T.ok hx a).flat (frzM_le) (hT x'), trivial⟩
      refine calls_of_sw (B := ⟨fun k => k < w.heap.size, frzM al.M ρ h [] w, [], [], gokP H []⟩) (ρ := fun _ => ⟨0, 0, 0, 0, false⟩) (al := ⟨fun _ => False, frzM al.M ρ h [] w⟩) (s0 := ⟨0, zipT 0 [T.enc x'], []⟩) hf hb rfl rfl ⟨by simp; omega, Marks.nil _ _ _, enter_t hA1 _, enterP H [], fun b hb => hb.elim⟩ (body x' hob) ?_ ?_
      · intro s ρ1 al1s a w1 hq1 H1
        obtain ⟨b, h1, h2⟩ := hq1
        obtain ⟨v', g1, g2⟩ := aRet_sound (fn := fn) H1 h1
        refine ⟨v', g1, ?_⟩
        obtain ⟨g4, g5⟩ := leaveD (U := []) (U1 := []) H H1.w
        obtain ⟨M2, hM2⟩ : ∃ M2, frzM al1s.M ρ1 s.h [] w1 = M2 := ⟨_, rfl⟩
        rw [hM2] at g4 g5
        have hMle : al1s.M.le M2 := by rw [← hM2]; exact frzM_le
        have hid0 : ¬ (⟨al.p, M2⟩ : Al) id := hid id (Nat.le_refl _) (by omega)
        have E2 : Ext ρ (Go.Proofs.YtpdjaabjfhjppaaGreatDoor.ρ1 ρ id (ρ1 b)) ⟨al.p, M2⟩ (al1 ⟨al.p, M2⟩ id) := Ext.new hid0 _
        have e := ρ1_id ρ id (ρ1 b)
        obtain ⟨ho, hfl⟩ := hk x'
        have hB1 := H1.w.blk b _ h2
        have hown := H1.w.own b _ h2 ho
        have hsz : w.heap.size ≤ w1.heap.size := H1.w.below.size
        refine ⟨v', Go.Proofs.YtpdjaabjfhjppaaGreatDoor.ρ1 ρ id (ρ1 b), al1 ⟨al.p, M2⟩ id, rfl, g4.trans E2, ?_, ?_, ?_⟩
        · rintro c (hc | rfl)
          · exact .inl hc
          · exact .inr ⟨Nat.le_refl _, by omega⟩
        · obtain ⟨_, A', e1, e2, e3⟩ := g2
          refine ⟨.inr rfl, A', ?_, ?_, ?_⟩
          · rw [e]; exact e1
          · rw [e]; exact e2
          · rw [e]; exact e3
        · have g6 : WRep B w0 ρ ⟨al.p, M2⟩ h w1 := by simpa using g5
          refine (g6.step E2 g6.below (fun _ _ _ _ => rfl) (fun _ _ => rfl)).more (BRep.flat (al := al1s) hMle e (.inr rfl) hfl hB1) ho ?_ ?_ ?_
          · rw [e]
            exact fun hc hS => hown hc (H.size _ hS)
          · rw [e]
            intro hc o
            show M2 _ o = none
            cases hy : M2 (ρ1 b).blk o with
            | none => rfl
            | some y =>
              rw [← hM2] at hy
              rcases frzM_some hy with hy | ⟨⟨c, _, hc, _⟩, _⟩
              · rw [H1.w.memOwn b _ h2 ho hc o] at hy; cases hy
              · cases hc
          · rw [e]
            intro c l hcl hol hcap hne hc2 heq
            have hcne : Go.Proofs.YtpdjaabjfhjppaaGreatDoor.ρ1 ρ id (ρ1 b) c = ρ c := by unfold Go.Proofs.YtpdjaabjfhjppaaGreatDoor.ρ1; rw [if_neg hne]
            rw [hcne] at hcap heq
            have := (H.blk c l hcl).lt hol hcap
            exact hown hc2 (show (ρ1 b).blk < w.heap.size by rw [← heq]; exact this)
      · intro y s ρ1 al1 a w1 h1 H1
        exact h1.elim
  psound := by
    intro id h args ob y E hr
    cases hr

end Go.Proofs.YtpdjaabjfhjppaaGreatDoor
