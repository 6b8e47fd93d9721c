/- Structs of plain cells held against each other. No program in sight. -/
import Derived.Test.YtpdjaabjfhjppaaGreatDoorA0
import Derived.Laws.StructEq
set_option linter.unusedVariables false
set_option linter.unusedSimpArgs false
namespace Go.Proofs.YtpdjaabjfhjppaaGreatDoor
open Go.RowKit

def kindC (P : Program) (t : TypeId) : Nat :=
  match P.underlying t with
  | some (.int _) => 1
  | some .bool => 2
  | some .string => 3
  | _ => 0
/-- the kinds of a struct's fields, where each is one plain cell -/
def flatT (P : Program) (t : TypeId) : Option (List Nat) :=
  match P.underlying t with
  | some (.struct fs) => if P.stoodInHeld t = false ∧ P.eqGuardType P.depth t = false ∧ (fs.toList.zipIdx.all fun p => p.1.offset == p.2 && p.1.name != "_" && kindC P p.1.type != 0) = true then some (fs.toList.map fun f => kindC P f.type) else none
  | _ => none
def eqKs : List Nat → List Value → List Value → Option Bool
  | [], [], [] => some true
  | 1 :: ks, .int k a :: xs, .int k' b :: ys => if k = k' then (eqKs ks xs ys).map (decide (a = b) && ·) else none
  | 2 :: ks, .bool a :: xs, .bool b :: ys => (eqKs ks xs ys).map (decide (a = b) && ·)
  | 3 :: ks, .string a :: xs, .string b :: ys => (eqKs ks xs ys).map (decide (a = b) && ·)
  | _, _, _ => none

theorem eqCell {P : Program} (w : World) (d : Nat) {t : TypeId} {k : Nat} (hk : kindC P t = k) {xs ys ks : List _} {x y : Value} {b : Bool} (h : eqKs (k :: ks) (x :: xs) (y :: ys) = some b) :
    ∃ a c, (Op.equalIn (d + 1) t x y).run P w = .ok a w ∧ eqKs ks xs ys = some c ∧ b = (a && c) := by
  unfold kindC at hk
  split at hk
  · rename_i q hu
    subst hk
    cases x <;> cases y <;> simp only [eqKs] at h <;> first | cases h | skip
    rename_i k1 a k2 b'
    split at h
    case isFalse => cases h
    rename_i he
    subst he
    rw [Option.map_eq_some_iff] at h
    obtain ⟨c, h1, h2⟩ := h
    refine ⟨a == b', c, run_equalIn_int w d t _ _ _ _ hu, h1, ?_⟩
    rw [← h2]
    congr 1
  · rename_i hu
    subst hk
    cases x <;> cases y <;> simp only [eqKs] at h <;> first | cases h | skip
    rename_i a b'
    rw [Option.map_eq_some_iff] at h
    obtain ⟨c, h1, h2⟩ := h
    refine ⟨a == b', c, run_equalIn_bool w d t _ _ hu, h1, ?_⟩
    rw [← h2]
    cases a <;> cases b' <;> rfl
  · rename_i hu
    subst hk
    cases x <;> cases y <;> simp only [eqKs] at h <;> first | cases h | skip
    rename_i a b'
    rw [Option.map_eq_some_iff] at h
    obtain ⟨c, h1, h2⟩ := h
    refine ⟨a.toList == b'.toList, c, run_equalIn_string w d t _ _ hu, h1, ?_⟩
    rw [← h2]
    congr 1
    by_cases e : a = b'
    · subst e; simp
    · have : ¬ a.toList = b'.toList := fun h => e (by
        rw [ByteArray.toList_eq, ByteArray.toList_eq] at h
        exact ByteArray.ext (Array.ext' h))
      simp [e, this]
  · subst hk
    simp only [eqKs] at h
    cases h

theorem eqFields_flat {P : Program} (w : World) (d : Nat) (xs ys : Array Value) : ∀ (fs : List Field) (j : Nat) {b : Bool}, ((fs.zipIdx j).all fun p => p.1.offset == p.2 && p.1.name != "_" && kindC P p.1.type != 0) = true → eqKs (fs.map fun f => kindC P f.type) (xs.toList.drop j) (ys.toList.drop j) = some b →
    (Op.eqFields (d + 1) xs ys fs).run P w = .ok b w
  | [], j, b, _, h => by
    cases hx : xs.toList.drop j with
    | nil => cases hy : ys.toList.drop j with
      | nil =>
        rw [hx, hy] at h
        simp only [List.map_nil, eqKs] at h
        injection h with h
        subst h
        rfl
      | cons _ _ => rw [hx, hy] at h; simp [eqKs] at h
    | cons _ _ => rw [hx] at h; simp [eqKs] at h
  | f :: fs, j, b, hf, h => by
    rw [List.zipIdx_cons, List.all_cons, Bool.and_eq_true] at hf
    obtain ⟨hf, hfs⟩ := hf
    simp only [Bool.and_eq_true, beq_iff_eq, bne_iff_ne, ne_eq] at hf
    obtain ⟨⟨ho, hn⟩, hk0⟩ := hf
    cases hx : xs.toList.drop j with
    | nil => rw [hx] at h; simp only [List.map_cons] at h; unfold eqKs at h; split at h <;> simp_all
    | cons x xr => cases hy : ys.toList.drop j with
      | nil => rw [hx, hy] at h; simp only [List.map_cons] at h; unfold eqKs at h; split at h <;> simp_all
      | cons y yr =>
        rw [hx, hy, List.map_cons] at h
        obtain ⟨a, c, h1, h2, h3⟩ := eqCell w d rfl h
        have hxj : xs[j]? = some x := by rw [← Array.getElem?_toList]; have := congrArg (·[0]?) hx; simpa using this
        have hyj : ys[j]? = some y := by rw [← Array.getElem?_toList]; have := congrArg (·[0]?) hy; simpa using this
        have hxr : xs.toList.drop (j + 1) = xr := by have := congrArg List.tail hx; simpa using this
        have hyr : ys.toList.drop (j + 1) = yr := by have := congrArg List.tail hy; simpa using this
        have ih := eqFields_flat w d xs ys fs (j + 1) (b := c) hfs (by rw [hxr, hyr]; exact h2)
        have hp : ∀ (zs : Array Value) (z : Value), zs[j]? = some z → (part f.type zs f.offset).run P w = .ok z w := by
          intro zs z hz
          have hr : rowOf P f.type = some false := by
            unfold kindC at hk0
            unfold rowOf
            cases hu : P.underlying f.type with
            | none => rw [hu] at hk0; exact absurd rfl hk0
            | some q => rw [hu] at hk0; cases q <;> first | rfl | exact absurd rfl hk0
          rw [ho]
          unfold part
          rw [Sem.run_bind, isAgg_false hr w]
          simp [Result.andThen_ok, hz]
        rw [Op.eqFields]
        simp only [hn, ne_eq, not_false_eq_true, if_true, Sem.run_bind, hp xs x hxj, hp ys y hyj, Result.andThen_ok, h1]
        subst h3
        cases a with
        | true => simpa using ih
        | false => rfl

def flatEq (P : Program) (t : TypeId) (xs ys : List Value) : Option Bool := match flatT P t with
  | some ks => eqKs ks xs ys
  | none => none
noncomputable def pureV' (P : Program) (s : Sem Value) : Option Value := pureV P s
def orPure (neg : Bool) (rest : Option Value) : Option Bool → Option Value
  | some b => some (.bool (if neg then !b else b))
  | none => rest
theorem orPure_eq {rest : Option Value} {b : Bool} : orPure false rest (some b) = some (.bool b) := rfl
theorem orPure_ne {rest : Option Value} {b : Bool} : orPure true rest (some b) = some (.bool (!b)) := rfl

theorem run_flat {P : Program} {t : TypeId} {xs ys : List Value} {b : Bool} (h : flatEq P t xs ys = some b) (op : BinOp) (x y : Operand) (w : World) :
    (Op.equal t (.agg xs.toArray) (.agg ys.toArray)).run P w = .ok b w ∧ (eqGuard op t x y (.agg xs.toArray) (.agg ys.toArray)).run P w = .ok () w := by
  unfold flatEq at h
  split at h
  case h_2 => cases h
  rename_i ks hks
  unfold flatT at hks
  split at hks
  case h_2 => cases hks
  rename_i fs hu
  split at hks
  case isFalse => cases hks
  rename_i hc
  injection hks with hks
  subst hks
  have hfo : P.fieldsOf t = fs := by unfold Program.fieldsOf; rw [hu]
  refine ⟨?_, run_eqGuard_agg w op t x y _ _ hc.2.1⟩
  unfold Op.equal
  rw [show Op.maxDepth = 9998 + 1 + 1 from rfl, run_equalIn_struct w (9998 + 1) t _ _ (by rw [hfo]; exact hu) hc.1, hfo]
  exact eqFields_flat w 9998 _ _ fs.toList 0 hc.2.2 (by simpa using h)

theorem pure_flat_eql {P : Program} {t : TypeId} {x y : Operand} {xs ys : List Value} : pureV P (do eqGuard .eql t x y (.agg xs.toArray) (.agg ys.toArray); binOp .eql t (.agg xs.toArray) (.agg ys.toArray)) = orPure false (pureV' P (do eqGuard .eql t x y (.agg xs.toArray) (.agg ys.toArray); binOp .eql t (.agg xs.toArray) (.agg ys.toArray))) (flatEq P t xs ys) := by
  cases h : flatEq P t xs ys with
  | none => rfl
  | some b =>
    refine pureV_eq fun w => ?_
    obtain ⟨h1, h2⟩ := run_flat h .eql x y w
    rw [Sem.run_bind, h2, Result.andThen_ok, show binOp .eql t (.agg xs.toArray) (.agg ys.toArray) = (do pure (.bool (← Op.equal t (.agg xs.toArray) (.agg ys.toArray)))) from rfl, Sem.run_bind, h1]
    rfl
theorem pure_flat_neq {P : Program} {t : TypeId} {x y : Operand} {xs ys : List Value} : pureV P (do eqGuard .neq t x y (.agg xs.toArray) (.agg ys.toArray); binOp .neq t (.agg xs.toArray) (.agg ys.toArray)) = orPure true (pureV' P (do eqGuard .neq t x y (.agg xs.toArray) (.agg ys.toArray); binOp .neq t (.agg xs.toArray) (.agg ys.toArray))) (flatEq P t xs ys) := by
  cases h : flatEq P t xs ys with
  | none => rfl
  | some b =>
    refine pureV_eq fun w => ?_
    obtain ⟨h1, h2⟩ := run_flat h .neq x y w
    rw [Sem.run_bind, h2, Result.andThen_ok, show binOp .neq t (.agg xs.toArray) (.agg ys.toArray) = (do pure (.bool (!(← Op.equal t (.agg xs.toArray) (.agg ys.toArray))))) from rfl, Sem.run_bind, h1]
    rfl

end Go.Proofs.YtpdjaabjfhjppaaGreatDoor
