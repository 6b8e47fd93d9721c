/- The value logic with lasting memory, part 19: code that only moves slots. No program in sight. -/
import Derived.Test.YtcdbldakjepjiaaDoorY1
set_option linter.unusedVariables false
set_option linter.unusedSimpArgs false
namespace Go.Proofs.YtcdbldakjepjiaaDoor
open Go.RowKit

def moveOf (o : Oper) : Option (Tmp × Tmp) :=
  match o.op, o.dst, o.guard with
  | .assign (.tmp s), some d, none => some (d, s)
  | .move (.tmp s), some d, none => some (d, s)
  | _, _, _ => none
def movesL : List Oper → Option (List (Tmp × Tmp))
  | [] => some []
  | o :: r => match moveOf o, movesL r with
    | some m, some l => some (m :: l)
    | _, _ => none
def movesOf : Code → Option (List (Tmp × Tmp))
  | .region _ ops false => movesL ops.toList
  | .seq a b => match movesOf a, movesOf b with
    | some x, some y => some (x ++ y)
    | _, _ => none
  | _ => none

def moveT (l : List (Tmp × Tmp)) (tm : Array Value) : Array Value := l.foldl (fun tm x => tm.setIfInBounds x.1 (tm.getD x.2 undef)) tm

theorem moveOf_run {P : Program} {o : Oper} {d s : Tmp} (h : moveOf o = some (d, s)) (a : Act) (W : World) : o.dst = some d ∧ o.guard = none ∧ (∀ c, o.op ≠ .defer c) ∧ (execOp a.eval o).run P W = .ok (.value (a.tmps.getD s undef)) W := by
  unfold moveOf at h
  split at h
  · rename_i s' d' h1 h2 h3
    injection h with h; injection h with e1 e2; subst e1; subst e2
    exact ⟨h2, h3, fun c e => (by rw [h1] at e; cases e), (by simp only [execOp, h1, Act.eval]; rfl)⟩
  · rename_i s' d' h1 h2 h3
    injection h with h; injection h with e1 e2; subst e1; subst e2
    exact ⟨h2, h3, fun c e => (by rw [h1] at e; cases e), (by simp only [execOp, h1, Act.eval]; rfl)⟩
  · cases h

theorem moves_ops {P : Program} {ro : Cf} {ops : Array Oper} {Q : Exit → Act → World → Prop} : ∀ (r : List Oper) (k : Nat) {l : List (Tmp × Tmp)} {a : Act} {W : World}, (∀ j, r[j]? = ops[k + j]?) → movesL r = some l → Q .normal { a with tmps := moveT l a.tmps } W →
    wpOpsIn (Fw ro) 0 P ops Q (List.range' k r.length) a W
  | [], k, l, a, W, _, h, hq => by
    injection h with h
    subst h
    exact hq
  | o :: r, k, l, a, W, hr, h, hq => by
    simp only [movesL] at h
    split at h
    case h_2 => cases h
    rename_i m l' h1 h2
    injection h with h
    subst h
    obtain ⟨d, s⟩ := m
    obtain ⟨g1, g2, g3, g4⟩ := moveOf_run (P := P) h1 a W
    have h0 : ops[k]? = some o := by have := hr 0; simpa using this.symm
    rw [List.length_cons, List.range'_succ]
    simp only [wpOpsIn, h0]
    have hw : Region.wanted o (yielded ops a.tmps) = true := by unfold Region.wanted; rw [g2]
    rw [if_pos hw]
    refine ⟨fun _ _ => trivial, ?_⟩
    rw [Oper.semAt_eq _ _ _ g3, g4, Oper.uponIn_value, g1]
    exact moves_ops r (k + 1) (fun j => by have := hr (j + 1); rw [show k + 1 + j = k + (j + 1) by omega]; simpa using this) h2 hq

theorem moves_wp {P : Program} {ro : Cf} : ∀ {c : Code} {l : List (Tmp × Tmp)}, movesOf c = some l → ∀ (a : Act) (W : World) (Q : Exit → Act → World → Prop), Q .normal { a with tmps := moveT l a.tmps } W → c.wpIn (Fw ro) 0 P Q a W
  | .region id ops false, l, h, a, W, Q, hq => by
    refine wpIn_region ?_
    rw [List.range_eq_range']
    have := moves_ops (P := P) (ro := ro) (Q := Q) (ops := ops) ops.toList 0 (a := a) (W := W) (fun j => by simp) h hq
    simpa using this
  | .seq x y, l, h, a, W, Q, hq => by
    simp only [movesOf] at h
    split at h
    case h_2 => cases h
    rename_i l1 l2 h1 h2
    injection h with h
    subst h
    refine wpIn_seq (moves_wp h1 a W _ ?_)
    show y.wpIn _ _ _ _ _ _
    refine moves_wp h2 _ W _ ?_
    unfold moveT at hq ⊢
    rw [List.foldl_append] at hq
    exact hq

end Go.Proofs.YtcdbldakjepjiaaDoor
