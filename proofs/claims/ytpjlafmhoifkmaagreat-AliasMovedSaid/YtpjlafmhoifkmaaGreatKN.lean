/- Structs of plain cells, and of structs of such, held against each other. No program in sight. -/
import Derived.Test.YtpjlafmhoifkmaaGreatC0
set_option linter.unusedVariables false
set_option linter.unusedSimpArgs false
namespace Go.Proofs.YtpjlafmhoifkmaaGreat
open Go.RowKit

def pieceT (P : Program) (t : TypeId) : Option (List Nat) :=
  if kindC P t = 0 then (match szOf P t, flatT P t with
    | some n, some ks => if n = ks.length then some ks else none
    | _, _ => none) else some [kindC P t]
def piecesOk (P : Program) : List Field → Nat → Option (List (List Nat))
  | [], _ => some []
  | f :: fs, o => if f.offset = o ∧ f.name ≠ "_" then (match pieceT P f.type with
    | some ks => (piecesOk P fs (o + ks.length)).map (ks :: ·)
    | none => none) else none
def deepT (P : Program) (t : TypeId) : Option (List (List Nat)) :=
  match P.underlying t with
  | some (.struct fs) => if P.stoodInHeld t = false ∧ P.eqGuardType P.depth t = false then piecesOk P fs.toList 0 else none
  | _ => none
def eqPs : List (List Nat) → List Value → List Value → Option Bool
  | [], [], [] => some true
  | ks :: r, xs, ys => match eqKs ks (xs.take ks.length) (ys.take ks.length) with
    | some a => (eqPs r (xs.drop ks.length) (ys.drop ks.length)).map (a && ·)
    | none => none
  | _, _, _ => none
theorem eqKs_len : ∀ {ks : List Nat} {xs ys : List Value} {b : Bool}, eqKs ks xs ys = some b → xs.length = ks.length ∧ ys.length = ks.length
  | [], [], [], _, _ => ⟨rfl, rfl⟩
  | [], _ :: _, _, _, h => by simp [eqKs] at h
  | [], [], _ :: _, _, h => by simp [eqKs] at h
  | k :: ks, xs, ys, b, h => by
    unfold eqKs at h
    split at h
    · rename_i e
      cases e
    · rename_i e
      injection e with e1 e2
      subst e2
      split at h
      case isFalse => cases h
      rw [Option.map_eq_some_iff] at h
      obtain ⟨c, hc, _⟩ := h
      have := eqKs_len hc
      exact ⟨congrArg (· + 1) this.1, congrArg (· + 1) this.2⟩
    · rename_i e
      injection e with e1 e2
      subst e2
      rw [Option.map_eq_some_iff] at h
      obtain ⟨c, hc, _⟩ := h
      have := eqKs_len hc
      exact ⟨congrArg (· + 1) this.1, congrArg (· + 1) this.2⟩
    · rename_i e
      injection e with e1 e2
      subst e2
      rw [Option.map_eq_some_iff] at h
      obtain ⟨c, hc, _⟩ := h
      have := eqKs_len hc
      exact ⟨congrArg (· + 1) this.1, congrArg (· + 1) this.2⟩
    · cases h

theorem piece_eq {P : Program} (w : World) (d : Nat) {f : Field} {ks : List Nat} (hp : pieceT P f.type = some ks) {xs ys : Array Value} {o : Nat} (ho : f.offset = o) {a : Bool} (h : eqKs ks ((xs.toList.drop o).take ks.length) ((ys.toList.drop o).take ks.length) = some a) :
    ∃ x y, (part f.type xs f.offset).run P w = .ok x w ∧ (part f.type ys f.offset).run P w = .ok y w ∧ (Op.equalIn (d + 2) f.type x y).run P w = .ok a w := by
  subst ho
  unfold pieceT at hp
  by_cases hk : kindC P f.type = 0
  · rw [if_pos hk] at hp
    split at hp
    case h_2 => cases hp
    rename_i n ks' hn hf
    split at hp
    case isFalse => cases hp
    rename_i hl
    injection hp with hp
    subst hp
    have hf0 := hf
    unfold flatT at hf
    split at hf
    case h_2 => cases hf
    rename_i fs hu
    split at hf
    case isFalse => cases hf
    rename_i hc
    have hr : rowOf P f.type = some true := by unfold rowOf; rw [hu]; rfl
    have hpart : ∀ zs : Array Value, (part f.type zs f.offset).run P w = .ok (.agg (zs.extract f.offset (f.offset + ks'.length))) w := by
      intro zs
      unfold part
      rw [Sem.run_bind, isAgg_true hr w, Result.andThen_ok]
      simp only [if_true]
      rw [Sem.run_bind, szOf_run hn w, Result.andThen_ok, hl]
      rfl
    have hfo : P.fieldsOf f.type = fs := by unfold Program.fieldsOf; rw [hu]
    refine ⟨_, _, hpart xs, hpart ys, ?_⟩
    injection hf with hf
    rw [run_equalIn_struct w (d + 1) f.type _ _ (by rw [hfo]; exact hu) hc.1, hfo]
    refine eqFields_flat w d _ _ fs.toList 0 hc.2.2 ?_
    rw [hf]
    have e : ∀ zs : Array Value, (zs.extract f.offset (f.offset + ks'.length)).toList = (zs.toList.drop f.offset).take ks'.length := by
      intro zs
      rw [Array.toList_extract, List.extract_eq_take_drop]
      congr 1
      omega
    rw [List.drop_zero, List.drop_zero, e, e]
    exact h
  · rw [if_neg hk] at hp
    injection hp with hp
    subst hp
    have hx : ∃ x, xs[f.offset]? = some x ∧ (xs.toList.drop f.offset).take 1 = [x] := by
      have := (eqKs_len h).1
      cases hd : xs.toList.drop f.offset with
      | nil => rw [hd] at this; simp at this
      | cons x xr =>
        refine ⟨x, ?_, by simp⟩
        rw [← Array.getElem?_toList]
        have := congrArg (·[0]?) hd
        simpa using this
    have hy : ∃ y, ys[f.offset]? = some y ∧ (ys.toList.drop f.offset).take 1 = [y] := by
      have := (eqKs_len h).2
      cases hd : ys.toList.drop f.offset with
      | nil => rw [hd] at this; simp at this
      | cons x xr =>
        refine ⟨x, ?_, by simp⟩
        rw [← Array.getElem?_toList]
        have := congrArg (·[0]?) hd
        simpa using this
    obtain ⟨x, hx1, hx2⟩ := hx
    obtain ⟨y, hy1, hy2⟩ := hy
    rw [show [kindC P f.type].length = 1 from rfl, hx2, hy2] at h
    obtain ⟨a', c, h1, h2, h3⟩ := eqCell w (d + 1) (t := f.type) rfl h
    have hc : c = true := by simpa [eqKs] using h2.symm
    have hpart : ∀ (zs : Array Value) (z : Value), zs[f.offset]? = some z → (part f.type zs f.offset).run P w = .ok z w := by
      intro zs z hz
      have hr : rowOf P f.type = some false := by
        unfold kindC at hk
        unfold rowOf
        cases hu : P.underlying f.type with
        | none => rw [hu] at hk; exact absurd rfl hk
        | some q => rw [hu] at hk; cases q <;> first | rfl | exact absurd rfl hk
      unfold part
      rw [Sem.run_bind, isAgg_false hr w]
      simp [Result.andThen_ok, hz]
    refine ⟨x, y, hpart xs x hx1, hpart ys y hy1, ?_⟩
    rw [h1, h3, hc, Bool.and_true]

theorem eqFields_deep {P : Program} (w : World) (d : Nat) (xs ys : Array Value) : ∀ (fs : List Field) (o : Nat) {ps : List (List Nat)} {b : Bool}, piecesOk P fs o = some ps → eqPs ps (xs.toList.drop o) (ys.toList.drop o) = some b →
    (Op.eqFields (d + 2) xs ys fs).run P w = .ok b w
  | [], o, ps, b, hf, h => by
    injection hf with hf
    subst hf
    cases hx : xs.toList.drop o with
    | nil => cases hy : ys.toList.drop o with
      | nil =>
        rw [hx, hy, eqPs] at h
        injection h with h
        subst h
        rfl
      | cons _ _ => rw [hx, hy] at h; simp [eqPs] at h
    | cons _ _ => rw [hx] at h; simp [eqPs] at h
  | f :: fs, o, ps, b, hf, h => by
    rw [piecesOk] at hf
    split at hf
    case isFalse => cases hf
    rename_i hc
    split at hf
    case h_2 => cases hf
    rename_i ks hks
    rw [Option.map_eq_some_iff] at hf
    obtain ⟨r, hr, rfl⟩ := hf
    rw [eqPs] at h
    split at h
    case h_2 => cases h
    rename_i a ha
    rw [Option.map_eq_some_iff] at h
    obtain ⟨c, hc2, hb⟩ := h
    obtain ⟨x, y, p1, p2, p3⟩ := piece_eq w d hks hc.1 ha
    rw [List.drop_drop, List.drop_drop] at hc2
    have ih := eqFields_deep w d xs ys fs (o + ks.length) hr hc2
    rw [Op.eqFields]
    simp only [hc.2, ne_eq, not_false_eq_true, if_true, Sem.run_bind, p1, p2, Result.andThen_ok, p3]
    subst hb
    cases a with
    | true => simpa using ih
    | false => rfl

def deepEq (P : Program) (t : TypeId) (xs ys : List Value) : Option Bool := match deepT P t with
  | some ps => eqPs ps xs ys
  | none => none
theorem run_deep {P : Program} {t : TypeId} {xs ys : List Value} {b : Bool} (h : deepEq P t xs ys = some b) (op : BinOp) (x y : Operand) (w : World) :
    (Op.equal t (.agg xs.toArray) (.agg ys.toArray)).run P w = .ok b w ∧ (eqGuard op t x y (.agg xs.toArray) (.agg ys.toArray)).run P w = .ok () w := by
  unfold deepEq at h
  split at h
  case h_2 => cases h
  rename_i ps hps
  unfold deepT at hps
  split at hps
  case h_2 => cases hps
  rename_i fs hu
  split at hps
  case isFalse => cases hps
  rename_i hc
  have hfo : P.fieldsOf t = fs := by unfold Program.fieldsOf; rw [hu]
  refine ⟨?_, run_eqGuard_agg w op t x y _ _ hc.2⟩
  unfold Op.equal
  rw [show Op.maxDepth = 9998 + 1 + 1 from rfl, run_equalIn_struct w (9998 + 1) t _ _ (by rw [hfo]; exact hu) hc.1, hfo]
  exact eqFields_deep w 9997 _ _ fs.toList 0 hps (by simpa using h)
theorem pure_deep_eql {P : Program} {t : TypeId} {x y : Operand} {xs ys : List Value} {b : Bool} (h : deepEq P t xs ys = some b) : pureV P (do eqGuard .eql t x y (.agg xs.toArray) (.agg ys.toArray); binOp .eql t (.agg xs.toArray) (.agg ys.toArray)) = some (.bool b) := by
  refine pureV_eq fun w => ?_
  obtain ⟨h1, h2⟩ := run_deep h .eql x y w
  rw [Sem.run_bind, h2, Result.andThen_ok, show binOp .eql t (.agg xs.toArray) (.agg ys.toArray) = (do pure (.bool (← Op.equal t (.agg xs.toArray) (.agg ys.toArray)))) from rfl, Sem.run_bind, h1]
  rfl
theorem pure_deep2 {P : Program} {t : TypeId} {x y : Operand} {xs ys : List Value} : pureV P (do eqGuard .eql t x y (.agg xs.toArray) (.agg ys.toArray); binOp .eql t (.agg xs.toArray) (.agg ys.toArray)) = orPure false (pureV' P (do eqGuard .eql t x y (.agg xs.toArray) (.agg ys.toArray); binOp .eql t (.agg xs.toArray) (.agg ys.toArray))) (deepEq P t xs ys) := by
  cases h : deepEq P t xs ys with
  | none => rfl
  | some b => exact pure_deep_eql h

end Go.Proofs.YtpjlafmhoifkmaaGreat
