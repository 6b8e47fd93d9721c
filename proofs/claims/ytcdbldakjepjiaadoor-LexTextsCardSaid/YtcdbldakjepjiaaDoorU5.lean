/- The value logic with lasting memory, part 5: operations on plain values, slices of slices, append. No program in sight. -/
import Derived.Test.YtcdbldakjepjiaaDoorU4
import Derived.Laws.Entries
set_option linter.unusedVariables false
set_option linter.unusedSimpArgs false
namespace Go.Proofs.YtcdbldakjepjiaaDoor
open Go.RowKit

/-- what a computation that leaves the world alone yields in every world -/
noncomputable def pureV (P : Program) (s : Sem Value) : Option Value := by
  classical exact if hv : ∃ v, ∀ w, s.run P w = .ok v w then some hv.choose else none

theorem pureV_some {P : Program} {s : Sem Value} {v : Value} (h : pureV P s = some v) (w : World) : s.run P w = .ok v w := by
  unfold pureV at h
  split at h
  · rename_i hv
    injection h with h
    rw [← h]
    exact hv.choose_spec w
  · cases h

theorem pureV_eq {P : Program} {s : Sem Value} {v : Value} (h : ∀ w, s.run P w = .ok v w) : pureV P s = some v := by
  have hv : ∃ v, ∀ w, s.run P w = .ok v w := ⟨v, h⟩
  have e : pureV P s = some hv.choose := by unfold pureV; rw [dif_pos hv]
  rw [e]
  have h1 := hv.choose_spec default
  rw [h default] at h1
  injection h1 with h1
  rw [← h1]

def flatLs : List LV → Option (List Value)
  | [] => some []
  | .v x :: r => if x.oneCell' then (flatLs r).map (x :: ·) else none
  | _ :: _ => none

def flatOf : AV → Option Value
  | .s (.l (.v x)) => some x
  | .s (.agg xs) => (flatLs xs).map fun l => .agg l.toArray
  | _ => none

section
variable {P : Program} {B : Base} {w0 : World} {ρ : Nat → Loc} {al : Al} {h : Heap} {w : World}

theorem flatLs_rep : ∀ {xs : List LV} {l ys : List Value}, flatLs xs = some l → LsRep ρ al xs ys → ys = l
  | [], l, [], h, _ => by simp [flatLs] at h; exact h.symm ▸ rfl
  | x :: xs, l, y :: ys, h, ⟨_, b, c⟩ => by
    cases x with
    | v x =>
      simp only [flatLs] at h
      split at h
      · cases hr : flatLs xs with
        | none => simp [hr] at h
        | some r =>
          simp [hr] at h
          rw [← h, flatLs_rep hr c]
          rw [show y = x from b]
      · cases h
    | d x => simp [flatLs] at h
    | sl b i n => simp [flatLs] at h
    | p b i j => simp [flatLs] at h
    | any => simp [flatLs] at h

theorem flatOf_rep {x : AV} {a y : Value} (hx : flatOf x = some a) (hr : ARep ρ al x y) : y = a := by
  cases x with
  | tup _ => cases hx
  | fn _ _ _ => cases hx
  | s x =>
    cases x with
    | l x =>
      cases x with
      | v x => injection hx with hx; rw [← hx]; exact hr
      | d x => cases hx
      | sl b i n => cases hx
      | p b i j => cases hx
      | any => cases hx
    | agg xs =>
      simp only [flatOf, Option.map_eq_some_iff] at hx
      obtain ⟨l, h1, rfl⟩ := hx
      obtain ⟨cs, rfl, h2⟩ := hr
      rw [flatLs_rep h1 h2]

/-- a plain value as an abstract one -/
def ofV : Value → AV
  | .agg cs => .s (.agg (cs.toList.map .v))
  | .tuple _ => .s (.l .any)
  | v => .s (.l (.v v))

theorem ofV_rep {v : Value} (hv : ∀ cs, v = .agg cs → ∀ c ∈ cs.toList, c.oneCell' = true) : ARep ρ al (ofV v) v := by
  unfold ofV
  split
  · exact ⟨_, by simp, zs_rep (hv _ rfl)⟩
  · trivial
  · exact rfl

/-! ### operators -/
noncomputable def aBin (P : Program) (op : BinOp) (t : TypeId) (xo yo : Operand) (x y : Value) : Option (Prop × Value) :=
  match x, y with
  | .int k a, .int k' b => match op with
    | .add => if k = k' then some (True, .int k (k.wrap (a + b))) else none
    | .sub => if k = k' then some (True, .int k (k.wrap (a - b))) else none
    | .mul => if k = k' then some (True, .int k (k.wrap (a * b))) else none
    | .quo => if k = k' then some (b ≠ 0, .int k (k.wrap (a.tdiv b))) else none
    | .rem => if k = k' then some (b ≠ 0, .int k (a.tmod b)) else none
    | .shl => some (0 ≤ b, .int k (k.wrap (a * 2 ^ min b.toNat k.bits)))
    | .shr => some (0 ≤ b, .int k (a.fdiv (2 ^ min b.toNat k.bits)))
    | .and => if k = k' then some (True, .int k (bits .and k a b)) else none
    | .or => if k = k' then some (True, .int k (bits .or k a b)) else none
    | .xor => if k = k' then some (True, .int k (bits .xor k a b)) else none
    | .andNot => if k = k' then some (True, .int k (bits .andNot k a b)) else none
    | .eql => if k = k' then some (True, .bool (a == b)) else none
    | .neq => if k = k' then some (True, .bool (a != b)) else none
    | .lss => if k = k' then some (True, .bool (decide (a < b))) else none
    | .leq => if k = k' then some (True, .bool (decide (a ≤ b))) else none
    | .gtr => if k = k' then some (True, .bool (decide (a > b))) else none
    | .geq => if k = k' then some (True, .bool (decide (a ≥ b))) else none
  | .string a, .string b => match op with
    | .add => some (a.size + b.size ≤ maxLen, .string (a ++ b))
    | .eql => some (True, .bool (decide (a = b)))
    | .neq => some (True, .bool (!decide (a = b)))
    | .lss => some (True, .bool (Op.bytesLess a.toList b.toList))
    | _ => none
  | x, y => match pureV P (do eqGuard op t xo yo x y; binOp op t x y) with
    | some v => match v with
      | .bool b => some (True, .bool b)
      | _ => none
    | none => none

theorem ba_ext' {a b : ByteArray} (h : a.toList = b.toList) : a = b := by
  rw [ByteArray.toList_eq, ByteArray.toList_eq] at h
  exact ByteArray.ext (Array.ext' h)

theorem beq_toList (a b : ByteArray) : (a.toList == b.toList) = decide (a = b) := by
  rw [Bool.eq_iff_iff, beq_iff_eq, decide_eq_true_iff]
  exact ⟨ba_ext', fun h => by rw [h]⟩

theorem aBin_sound {op : BinOp} {t : TypeId} {xo yo : Operand} {x y : Value} {ob : Prop} {v : Value} (hs : aBin P op t xo yo x y = some (ob, v)) (hob : ob) (w : World) :
    (do eqGuard op t xo yo x y; binOp op t x y : Sem Value).run P w = .ok v w ∧ (∀ cs, v ≠ .agg cs) ∧ ∀ cs, v ≠ .tuple cs := by
  unfold aBin at hs
  split at hs
  · rename_i k a k' b
    have hg : ∀ op, (eqGuard op t xo yo (.int k a) (.int k' b)).run P w = .ok () w := by
      intro op; unfold eqGuard; split <;> rfl
    split at hs <;> first
      | (split at hs
         · rename_i hk
           subst hk
           injection hs with hs
           injection hs with h1 h2
           subst h1
           subst h2
           refine ⟨?_, by simp, by simp⟩
           simp_all [binOp, Op.intArith, Op.intDiv, Op.intCmp, Op.intBits, bits]
         · cases hs)
      | (injection hs with hs
         injection hs with h1 h2
         subst h1
         subst h2
         refine ⟨?_, by simp, by simp⟩
         have : ¬ b < 0 := by omega
         simp [hg, binOp, Op.shift, this])
  · rename_i a b
    have hg : ∀ op, (eqGuard op t xo yo (.string a) (.string b)).run P w = .ok () w := by
      intro op; unfold eqGuard; split <;> rfl
    split at hs <;> first
      | cases hs; done
      | (injection hs with hs
         injection hs with h1 h2
         subst h1
         subst h2
         refine ⟨?_, by simp, by simp⟩
         first
          | (simp only [Sem.run_bind, hg, Result.andThen_ok, binOp, Op.stringOp, beq_toList]; done)
          | (simp only [Sem.run_bind, hg, Result.andThen_ok, binOp, Op.stringOp, beq_toList]; rfl)
          | (simp only [Sem.run_bind, hg, Result.andThen_ok, binOp, Op.stringOp]
             rw [if_neg (by have := hob; unfold maxLen at this; simp [IntKind.max, IntKind.signed, IntKind.bits]; omega)]
             rfl))
  · split at hs
    · rename_i u hu
      split at hs
      · injection hs with hs
        injection hs with h1 h2
        subst h2
        exact ⟨pureV_some hu w, by simp, by simp⟩
      · cases hs
    · cases hs

def aUn (op : UnOp) (x : Value) : Option Value :=
  match op, x with
  | .neg, .int k n => some (.int k (k.wrap (0 - n)))
  | .xor, .int k n => some (.int k (bits .xor k (if k.signed then -1 else k.max) n))
  | .not, .bool b => some (.bool !b)
  | _, _ => none

theorem aUn_sound {op : UnOp} {x v : Value} (hs : aUn op x = some v) (w : World) : (Op.unary op x).run P w = .ok v w ∧ (∀ cs, v ≠ .agg cs) ∧ ∀ cs, v ≠ .tuple cs := by
  unfold aUn at hs
  split at hs
  · injection hs with hs; subst hs; exact ⟨rfl, by simp, by simp⟩
  · injection hs with hs; subst hs
    refine ⟨?_, by simp, by simp⟩
    simp [Op.unary, Op.intBits, bits]
  · injection hs with hs; subst hs; exact ⟨rfl, by simp, by simp⟩
  · cases hs

/-- conversions between kinds of integers, and of strings' types -/
def kindOf' (P : Program) (t : TypeId) : Option IntKind :=
  match P.underlying t with
  | some (.int k) => some k
  | _ => none
def isStr (P : Program) (t : TypeId) : Bool :=
  match P.underlying t with
  | some .string => true
  | _ => false

def aConv (P : Program) (src dst : TypeId) (x : Value) : Option Value :=
  match x with
  | .int _ n => match kindOf' P dst, rowOf P src with
    | some k, some _ => some (.int k (k.wrap n))
    | _, _ => none
  | .string s => if isStr P dst && (rowOf P src).isSome then some (.string s) else none
  | _ => none

theorem aConv_sound {src dst : TypeId} {x v : Value} (hs : aConv P src dst x = some v) (w : World) : (convert src dst x).run P w = .ok v w ∧ (∀ cs, v ≠ .agg cs) ∧ ∀ cs, v ≠ .tuple cs := by
  unfold aConv at hs
  split at hs
  · split at hs
    case h_2 => cases hs
    rename_i k d' hk hd'
    injection hs with hs
    subst hs
    obtain ⟨d, hd⟩ : ∃ d, P.underlying src = some d := by
      unfold rowOf at hd'
      cases hu : P.underlying src with
      | none => simp [hu] at hd'
      | some d => exact ⟨d, rfl⟩
    unfold kindOf' at hk
    split at hk
    case h_2 => cases hk
    rename_i k2 hu
    injection hk with hk
    subst hk
    refine ⟨?_, by simp, by simp⟩
    simp [convert, run_underlying hd, run_underlying hu, Conv.intToInt]
  · split at hs
    case isFalse => cases hs
    rename_i hc
    injection hs with hs
    subst hs
    simp only [Bool.and_eq_true] at hc
    obtain ⟨d, hd⟩ : ∃ d, P.underlying src = some d := by
      have := hc.2
      unfold rowOf at this
      cases hu : P.underlying src with
      | none => simp [hu] at this
      | some d => exact ⟨d, rfl⟩
    have hu : P.underlying dst = some .string := by
      have := hc.1
      unfold isStr at this
      split at this
      · assumption
      · cases this
    refine ⟨?_, by simp, by simp⟩
    cases d <;> simp [convert, run_underlying hd, run_underlying hu]
  · cases hs

def byteAt (s : ByteArray) (z : Int) : Int := ((s.data.toList.getD z.toNat 0).toNat : Int)

/-- a byte of a string; an element of an array that is a value -/
def aIndex (P : Program) (t : TypeId) (x ix : AV) : Option (Prop × AV) :=
  match x, ix with
  | .s (.l (.v (.string s))), .s (.l (.v (.int _ z))) => if isStr P t then some (0 ≤ z ∧ z < s.size, .s (.l (.v (.int .u8 (byteAt s z))))) else none
  | .s (.agg xs), .s (.l (.v (.int _ z))) => match P.underlying t with
    | some (.array n e) => match rowOf P e, szOf P e, flatLs xs with
      | some false, some 1, some l => if n = l.length then some (0 ≤ z ∧ z < n, .s (.l (.v (l.getD z.toNat undef)))) else none
      | some false, some 1, none => if n = xs.length then match xs[z.toNat]? with
        | some y => some (0 ≤ z, .s (.l y))
        | none => none
        else none
      | _, _, _ => none
    | _ => none
  | _, _ => none

theorem isAgg_false {t : TypeId} (hr : rowOf P t = some false) (w : World) : (isAgg t).run P w = .ok false w := by
  unfold rowOf at hr
  cases hu : P.underlying t with
  | none => simp [hu] at hr
  | some d =>
    unfold isAgg
    rw [Sem.run_bind, run_underlying hu w]
    simp only [hu, Option.map_some, Option.some.injEq] at hr
    cases d <;> simp_all [TypeDesc.isRow]

theorem isAgg_true {t : TypeId} (hr : rowOf P t = some true) (w : World) : (isAgg t).run P w = .ok true w := by
  unfold rowOf at hr
  cases hu : P.underlying t with
  | none => simp [hu] at hr
  | some d =>
    unfold isAgg
    rw [Sem.run_bind, run_underlying hu w]
    simp only [hu, Option.map_some, Option.some.injEq] at hr
    cases d <;> simp_all [TypeDesc.isRow]

theorem aIndex_sound {t : TypeId} {x ix : AV} {u v : Value} (hx : ARep ρ al x u) (hix : ARep ρ al ix v) {ob : Prop} {r : AV} (hs : aIndex P t x ix = some (ob, r)) (hob : ob) (w : World) :
    ∃ y, (Instr.index t u v).run P w = .ok y w ∧ ARep ρ al r y := by
  unfold aIndex at hs
  split at hs
  · rename_i s k z
    split at hs
    case isFalse => cases hs
    rename_i hst
    injection hs with hs
    injection hs with h1 h2
    subst h1
    subst h2
    have : u = .string s := hx
    subst this
    have : v = .int k z := hix
    subst this
    obtain ⟨h0, h1⟩ := hob
    have hu : P.underlying t = some .string := by
      unfold isStr at hst
      split at hst
      · assumption
      · cases hst
    have hz : z.toNat < s.size := by omega
    have e : s[z.toNat]? = some s[z.toNat] := getElem?_pos s z.toNat hz
    refine ⟨.int .u8 (s[z.toNat].toNat : Nat), ?_, ?_⟩
    · simp [Instr.index, asIntOf, run_underlying hu, h0, e]
    · show _ = _
      have e2 : s.data.toList[z.toNat]? = some s[z.toNat] := by
        rw [List.getElem?_eq_getElem (by simpa using hz)]; rfl
      simp [byteAt, List.getD_eq_getElem?_getD, e2]
  · rename_i xs k z
    split at hs
    case h_2 => cases hs
    rename_i n e hu
    split at hs
    rename_i l hr hsz hl
    split at hs
    case isFalse => cases hs
    rename_i hn
    injection hs with hs
    injection hs with h1 h2
    subst h1
    subst h2
    obtain ⟨h0, h1⟩ := hob
    obtain ⟨cs, rfl, hrep⟩ := hx
    have : v = .int k z := hix
    subst this
    have := flatLs_rep hl hrep
    subst this
    have hlt : z.toNat < cs.length := by omega
    refine ⟨cs.getD z.toNat undef, ?_, rfl⟩
    simp [Instr.index, asIntOf, run_underlying hu, h0, h1, szOf_run hsz, part, isAgg_false hr, List.getElem?_eq_getElem hlt, List.getD_eq_getElem?_getD]
    rename_i hr hsz hl
    split at hs
    case isFalse => cases hs
    rename_i hn
    split at hs
    case h_2 => cases hs
    rename_i y hy
    injection hs with hs
    injection hs with h1 h2
    subst h1
    subst h2
    obtain ⟨cs, rfl, hrep⟩ := hx
    have : v = .int k z := hix
    subst this
    obtain ⟨q, g1, g2, g3⟩ := hrep.get _ _ hy
    have hlt : z.toNat < xs.length := (List.getElem?_eq_some_iff.1 hy).1
    have h1 : z < n := by omega
    refine ⟨q, ?_, g3⟩
    simp [Instr.index, asIntOf, run_underlying hu, hob, h1, szOf_run hsz, part, isAgg_false hr, g1]
    cases hs
  · cases hs

def aLen (P : Program) (t : TypeId) (x : AV) : Option Value :=
  match x with
  | .s (.l (.d (.sd _ els))) => if (elOf P t).isSome then some (.int .i64 els.length) else none
  | .s (.l (.sl _ _ n)) => if (elOf P t).isSome then some (.int .i64 n) else none
  | .s (.l (.v (.slice _ n _))) => if (elOf P t).isSome then some (.int .i64 n) else none
  | .s (.l (.v (.string s))) => if isStr P t then some (.int .i64 s.size) else none
  | _ => none

theorem elOf_some {t e : TypeId} (he : elOf P t = some e) : P.underlying t = some (.slice e) := by
  unfold elOf at he
  split at he
  · rename_i e2 hu; injection he with he; rw [hu, he]
  · cases he

theorem isStr_some {t : TypeId} (he : isStr P t = true) : P.underlying t = some .string := by
  unfold isStr at he
  split at he
  · assumption
  · cases he

theorem aLen_sound {t ty : TypeId} {x : AV} {u v : Value} (hx : ARep ρ al x u) (hs : aLen P t x = some v) (w : World) :
    (Builtin.len_ #[t] ty #[u]).run P w = .ok v w ∧ ARep ρ al (.s (.l (.v v))) v := by
  refine ⟨?_, rfl⟩
  unfold aLen at hs
  split at hs
  · split at hs
    case isFalse => cases hs
    rename_i he
    obtain ⟨e, he⟩ := Option.isSome_iff_exists.1 he
    injection hs with hs
    subst hs
    simp only [ARep, SRep, LRep, DRep] at hx
    obtain ⟨A, cap, rfl, _⟩ := hx
    simp [Builtin.len_, run_underlying (elOf_some he), goInt]
  · split at hs
    case isFalse => cases hs
    rename_i he
    obtain ⟨e, he⟩ := Option.isSome_iff_exists.1 he
    injection hs with hs
    subst hs
    obtain ⟨_, A, rfl, _⟩ := hx
    simp [Builtin.len_, run_underlying (elOf_some he), goInt]
  · split at hs
    case isFalse => cases hs
    rename_i he
    obtain ⟨e, he⟩ := Option.isSome_iff_exists.1 he
    injection hs with hs
    subst hs
    have : u = _ := hx
    subst this
    simp [Builtin.len_, run_underlying (elOf_some he), goInt]
  · split at hs
    case isFalse => cases hs
    rename_i he
    injection hs with hs
    subst hs
    have : u = _ := hx
    subst this
    simp [Builtin.len_, run_underlying (isStr_some he), goInt]
  · cases hs

end

end Go.Proofs.YtcdbldakjepjiaaDoor
