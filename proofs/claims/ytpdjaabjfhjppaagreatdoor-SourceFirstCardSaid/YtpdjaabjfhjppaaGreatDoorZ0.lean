/- The value logic, computed: single operations on values that are all known. No program in sight. -/
import Derived.Test.YtpdjaabjfhjppaaGreatDoorJq
import Derived.Test.YtpdjaabjfhjppaaGreatDoorC0
set_option linter.unusedVariables false
set_option linter.unusedSimpArgs false
namespace Go.Proofs.YtpdjaabjfhjppaaGreatDoor
open Go.RowKit
set_option maxRecDepth 100000

/-- what an operation comes to: a value and the blocks that it makes or changes; a panic; or it is not known (where) -/
inductive CO where
  | val (r : AV) (E : Heap)
  | pan (v : Value) (E : Heap)
  | no (e : Nat)
/-- such a thing under a condition -/
structure CQ where
  q : Bool
  r : AV
  E : Heap

/-! ### Twins with conditions that can be computed -/
def cIndexAt (P : Program) (t : TypeId) (x ix : AV) : Option CQ :=
  match x, ix with
  | .s (.l (.sl b i n)), .s (.l (.v (.int _ z))) => match elOf P t with
    | some e => match szOf P e with
      | some _ => some ⟨decide (0 ≤ z) && decide (z < n), .s (.l (.p b (i + z.toNat) 0)), []⟩
      | none => none
    | none => none
  | .s (.l (.p b i j)), .s (.l (.v (.int _ z))) => match arrOf P t with
    | some (n, s) => some ⟨decide (0 ≤ z) && decide (z < n), .s (.l (.p b i (j + z.toNat * s))), []⟩
    | none => none
  | .s (.l (.d (.pd xs))), .s (.l (.v (.int _ z))) => match arrOf P t with
    | some (n, s) => some ⟨decide (0 ≤ z) && decide (z < n), .s (.l (.d (.pd (xs.drop (z.toNat * s))))), []⟩
    | none => none
  | .s (.l (.d (.sd sz els))), .s (.l (.v (.int _ z))) => match elOf P t with
    | some e => if szOf P e = some sz then match els[z.toNat]? with
      | some el => some ⟨decide (0 ≤ z), .s (.l (.d (.pd el))), []⟩
      | none => none
      else none
    | none => none
  | _, _ => none
theorem cIndexAt_ok {P : Program} {t : TypeId} {x ix : AV} {r : AV} {E : Heap} (h : cIndexAt P t x ix = some ⟨true, r, E⟩) : ∃ R, aIndexAt P t x ix = some R ∧ R.ob ∧ R.r = r ∧ R.E = E := by
  unfold cIndexAt at h
  unfold aIndexAt
  repeat' split at h
  all_goals first | (cases h; done) | skip
  all_goals
    injection h with h
    injection h with h1 h2 h3
    subst h2 h3
    simp only [Bool.and_eq_true, decide_eq_true_eq] at h1
    simp only [*]
    exact ⟨_, rfl, by first | trivial | exact h1 | simp_all, rfl, rfl⟩

def cIndex (P : Program) (t : TypeId) (x ix : AV) : Option (Bool × AV) :=
  match x, ix with
  | .s (.l (.v (.string s))), .s (.l (.v (.int _ z))) => if isStr P t then some (decide (0 ≤ z) && decide (z < s.size), .s (.l (.v (.int .u8 (byteAt s z))))) else none
  | .s (.agg xs), .s (.l (.v (.int _ z))) => match P.underlying t with
    | some (.array n e) => match rowOf P e, szOf P e, flatLs xs with
      | some false, some 1, some l => if n = l.length then some (decide (0 ≤ z) && decide (z < n), .s (.l (.v (l.getD z.toNat undef)))) else none
      | some false, some 1, none => if n = xs.length then match xs[z.toNat]? with
        | some y => some (decide (0 ≤ z), .s (.l y))
        | none => none
        else none
      | some true, some s, _ => if n * s = xs.length then some (decide (0 ≤ z) && decide (z < n), .s (.agg ((xs.drop (z.toNat * s)).take s))) else none
      | _, _, _ => none
    | _ => none
  | _, _ => none

def cSrc (P : Program) (t2 : TypeId) (y : AV) (h : Heap) (sz : Nat) : Option (Bool × Nat × List (List LV)) :=
  match y with
  | .s (.l (.sl c i m)) => match hget h c with
    | some l => if l.sz = sz ∧ (elOf P t2).isSome then some (decide (i + m ≤ l.els.length), m, (l.els.drop i).take m) else none
    | none => none
  | .s (.l (.d (.sd sz' els))) => if sz' = sz ∧ (elOf P t2).isSome then some (true, els.length, els.map ofDs) else none
  | .s (.l (.v (.string s))) => if isStr P t2 = true ∧ sz = 1 then some (true, s.size, (toBytes s).map encByte) else none
  | .s (.l (.v (.slice none 0 0))) => if (elOf P t2).isSome then some (true, 0, []) else none
  | _ => none
theorem cSrc_ok {P : Program} {t2 : TypeId} {y : AV} {h : Heap} {sz m : Nat} {rows : List (List LV)} (hs : cSrc P t2 y h sz = some (true, m, rows)) : ∃ ob, srcOf P t2 y h sz = some (ob, m, rows) ∧ ob := by
  unfold cSrc at hs
  unfold srcOf
  repeat' split at hs
  all_goals first | (cases hs; done) | skip
  all_goals
    injection hs with hs
    injection hs with h1 hs
    injection hs with h2 h3
    subst h2 h3
    simp only [*]
    exact ⟨_, rfl, by first | trivial | exact of_decide_eq_true h1 | simp_all⟩
def cAppend (P : Program) (t1 t2 : TypeId) (x y : AV) (h : Heap) (id : Nat) : Option CQ :=
  match elOf P t1 with
  | some T => match zeroOf P T, bytesOf' P T, szOf P T with
    | some _, some by', some sz => match cSrc P t2 y h sz with
      | some (ob, m, rows) => match x with
        | .s (.l (.sl b 0 n)) => match hget h b with
          | some k => if k.own = true ∧ k.sz = sz ∧ k.T = T then some ⟨ob && decide (n ≤ k.els.length) && decide (n + m ≤ maxLen) && decide ((n + m) * by' ≤ 140737488355328), .s (.l (.sl id 0 (n + m))), [(id, some ⟨true, T, sz, k.els.take n ++ rows⟩), (b, none)]⟩ else none
          | none => none
        | .s (.l (.v (.slice none 0 0))) => some ⟨ob && decide (m ≤ maxLen) && decide (m * by' ≤ 140737488355328), .s (.l (.sl id 0 m)), [(id, some ⟨true, T, sz, rows⟩)]⟩
        | _ => none
      | none => none
    | _, _, _ => none
  | none => none
theorem cAppend_ok {P : Program} {t1 t2 : TypeId} {x y : AV} {h : Heap} {id : Nat} {r : AV} {E : Heap} (hs : cAppend P t1 t2 x y h id = some ⟨true, r, E⟩) : ∃ R, aAppend P t1 t2 x y h id = some R ∧ R.ob ∧ R.r = r ∧ R.E = E := by
  unfold cAppend at hs
  split at hs
  case h_2 => cases hs
  rename_i T hT
  split at hs
  case h_2 => cases hs
  rename_i z by' sz h1 h2 h3
  split at hs
  case h_2 => cases hs
  rename_i ob m rows hsrc
  split at hs
  · rename_i b n
    split at hs
    case h_2 => cases hs
    rename_i k hk
    split at hs
    case isFalse => cases hs
    rename_i hc
    injection hs with hs
    injection hs with g1 g2 g3
    subst g2 g3
    simp only [Bool.and_eq_true, decide_eq_true_eq] at g1
    obtain ⟨⟨⟨rfl, g4⟩, g5⟩, g6⟩ := g1
    obtain ⟨o, hs1, ho⟩ := cSrc_ok hsrc
    unfold aAppend
    simp only [hT, h1, h2, h3, hs1, hk]
    rw [if_pos hc]
    exact ⟨_, rfl, ⟨ho, g4, g5, g6⟩, rfl, rfl⟩
  · injection hs with hs
    injection hs with g1 g2 g3
    subst g2 g3
    simp only [Bool.and_eq_true, decide_eq_true_eq] at g1
    obtain ⟨⟨rfl, g5⟩, g6⟩ := g1
    obtain ⟨o, hs1, ho⟩ := cSrc_ok hsrc
    unfold aAppend
    simp only [hT, h1, h2, h3, hs1]
    exact ⟨_, rfl, ⟨ho, g5, g6⟩, rfl, rfl⟩
  · cases hs
def cMake (P : Program) (t : TypeId) (x y : AV) (id : Nat) : Option CQ :=
  match elOf P t with
  | some e => match zeroOf P e, bytesOf' P e with
    | some zs, some by_ => match x, y with
      | .s (.l (.v (.int _ l))), .s (.l (.v (.int _ c))) => some ⟨decide (0 ≤ l) && decide (l ≤ c) && decide (by_ * c ≤ 281474976710656) && decide (c ≤ maxLen), .s (.l (.sl id 0 l.toNat)), [(id, some ⟨true, e, zs.length, List.replicate l.toNat (zs.map .v)⟩)]⟩
      | _, _ => none
    | _, _ => none
  | none => none
theorem cMake_ok {P : Program} {t : TypeId} {x y : AV} {id : Nat} {r : AV} {E : Heap} (h : cMake P t x y id = some ⟨true, r, E⟩) : ∃ R, aMake P t x y id = some R ∧ R.ob ∧ R.r = r ∧ R.E = E := by
  unfold cMake at h
  split at h
  case h_2 => cases h
  rename_i e he
  split at h
  case h_2 => cases h
  rename_i zs by_ h1 h2
  split at h
  case h_2 => cases h
  rename_i k l k' c
  injection h with h
  injection h with g1 g2 g3
  subst g2 g3
  simp only [Bool.and_eq_true, decide_eq_true_eq] at g1
  unfold aMake
  simp only [he, h1, h2]
  exact ⟨_, rfl, ⟨g1.1.1.1, g1.1.1.2, g1.1.2, g1.2⟩, rfl, rfl⟩
def cConvS (P : Program) (src dst : TypeId) (x : AV) (h : Heap) (id : Nat) : Option CQ :=
  match x with
  | .s (.l (.sl b i n)) => if isBytes P src = true then match hget h b with
      | some k => if isStr P dst = true then (if k.sz = 1 then match decAll decByte ((k.els.drop i).take n) with
          | some zs => some ⟨decide (i + n ≤ k.els.length), .s (.l (.v (.string (ofBytes zs)))), []⟩
          | none => none
          else none)
        else if src = dst ∧ k.own = true then some ⟨decide (0 < n), .s (.l (.sl b i n)), []⟩ else none
      | none => none
      else none
  | .s (.l (.d (.sd sz els))) => if isBytes P src = true ∧ isStr P dst = true ∧ sz = 1 then match decAll decByte (els.map ofDs) with
      | some zs => some ⟨true, .s (.l (.v (.string (ofBytes zs)))), []⟩
      | none => none
      else none
  | .s (.l (.v (.slice none 0 0))) => if isBytes P src = true ∧ isStr P dst = true then some ⟨true, .s (.l (.v (.string (ofBytes [])))), []⟩ else none
  | .s (.l (.v (.string s))) => match elOf P dst with
    | some e => if isBytes P dst = true ∧ isStr P src = true then some ⟨decide (s.size ≤ maxLen), .s (.l (.sl id 0 s.size)), [(id, some ⟨true, e, 1, (toBytes s).map encByte⟩)]⟩ else none
    | none => none
  | _ => none
theorem cConvS_ok {P : Program} {src dst : TypeId} {x : AV} {h : Heap} {id : Nat} {r : AV} {E : Heap} (hs : cConvS P src dst x h id = some ⟨true, r, E⟩) : ∃ R, aConvS P src dst x h id = some R ∧ R.ob ∧ R.r = r ∧ R.E = E := by
  unfold cConvS at hs
  unfold aConvS
  repeat' split at hs
  all_goals first | (cases hs; done) | skip
  all_goals
    try (rename_i hsd; obtain ⟨rfl, _⟩ := hsd)
    injection hs with hs
    injection hs with g1 g2 g3
    subst g2 g3
    simp only [*, and_self, if_true, if_false, Bool.false_eq_true]
    refine ⟨⟨_, _, _⟩, rfl, ?_, rfl, rfl⟩
    first
    | trivial
    | exact of_decide_eq_true g1
    | simp_all
def cSlice (P : Program) (t : TypeId) (x : AV) (lo hi mx : Option AV) (h : Heap) : Option CQ :=
  match mx with
  | some _ => none
  | none => match x with
    | .s (.l (.sl b i n)) => match bnd 0 lo, bnd n hi, hget h b, elOf P t with
      | some l, some m, some k, some e => if szOf P e = some k.sz then some ⟨decide (0 ≤ l) && decide (l ≤ m) && decide (m ≤ n), .s (.l (.sl b (i + l.toNat) (m.toNat - l.toNat))), []⟩ else none
      | _, _, _, _ => none
    | .s (.l (.d (.sd sz els))) => match bnd 0 lo, bnd els.length hi, elOf P t with
      | some l, some m, some e => if szOf P e = some sz then some ⟨decide (0 ≤ l) && decide (l ≤ m) && decide (m ≤ els.length), .s (.l (.d (.sd sz ((els.drop l.toNat).take (m.toNat - l.toNat))))), []⟩ else none
      | _, _, _ => none
    | .s (.l (.v (.string s))) => match bnd 0 lo, bnd s.size hi with
      | some l, some m => if isStr P t then some ⟨decide (0 ≤ l) && decide (l ≤ m) && decide (m ≤ s.size), .s (.l (.v (.string (s.extract l.toNat m.toNat)))), []⟩ else none
      | _, _ => none
    | .s (.l (.v (.slice none 0 0))) => match bnd 0 lo, bnd 0 hi, elOf P t with
      | some l, some m, some e => match szOf P e with
        | some _ => some ⟨decide (l = 0) && decide (m = 0), .s (.l (.v (.slice none 0 0))), []⟩
        | none => none
      | _, _, _ => none
    | _ => none
theorem cSlice_ok {P : Program} {t : TypeId} {x : AV} {lo hi mx : Option AV} {h : Heap} {r : AV} {E : Heap} (hs : cSlice P t x lo hi mx h = some ⟨true, r, E⟩) : ∃ R, aSlice P t x lo hi mx h = some R ∧ R.ob ∧ R.r = r ∧ R.E = E := by
  unfold cSlice at hs
  unfold aSlice
  repeat' split at hs
  all_goals first | (cases hs; done) | skip
  all_goals
    injection hs with hs
    injection hs with g1 g2 g3
    subst g2 g3
    simp only [Bool.and_eq_true, decide_eq_true_eq] at g1
    simp only [*, if_true]
    refine ⟨⟨_, _, _⟩, rfl, ?_, rfl, rfl⟩
    simp_all
theorem cIndex_ok {P : Program} {t : TypeId} {x ix r : AV} (h : cIndex P t x ix = some (true, r)) : ∃ ob, aIndex P t x ix = some (ob, r) ∧ ob := by
  unfold cIndex at h
  unfold aIndex
  split at h
  · split at h
    case isFalse => cases h
    rename_i hc
    injection h with h
    injection h with g1 g2
    subst g2
    simp only [Bool.and_eq_true, decide_eq_true_eq] at g1
    simp only [hc, if_true]
    exact ⟨_, rfl, g1⟩
  · split at h
    case h_2 => cases h
    rename_i n e hu
    simp only [hu]
    split at h
    · rename_i l h1 h2 h3
      split at h
      case isFalse => cases h
      rename_i hc
      injection h with h
      injection h with g1 g2
      subst g2
      simp only [Bool.and_eq_true, decide_eq_true_eq] at g1
      simp only [h1, h2, h3]
      rw [if_pos hc]
      exact ⟨_, rfl, g1⟩
    · rename_i h1 h2 h3
      split at h
      case isFalse => cases h
      rename_i hc
      split at h
      case h_2 => cases h
      rename_i y hy
      injection h with h
      injection h with g1 g2
      subst g2
      simp only [h1, h2, h3]
      rw [if_pos hc]
      simp only [hy]
      exact ⟨_, rfl, of_decide_eq_true g1⟩
    · rename_i s h1 h2
      split at h
      case isFalse => cases h
      rename_i hc
      injection h with h
      injection h with g1 g2
      subst g2
      simp only [Bool.and_eq_true, decide_eq_true_eq] at g1
      simp only [h1, h2]
      rw [if_pos hc]
      exact ⟨_, rfl, g1⟩
    · cases h
  · cases h

/-! ### Operators -/
def cBinI (op : BinOp) (k : IntKind) (a b : Int) : Option (Bool × Value) := match op with
    | .add => some (true, .int k (k.wrap (a + b)))
    | .sub => some (true, .int k (k.wrap (a - b)))
    | .mul => some (true, .int k (k.wrap (a * b)))
    | .quo => some (!decide (b = 0), .int k (k.wrap (a.tdiv b)))
    | .rem => some (!decide (b = 0), .int k (a.tmod b))
    | .shl => some (decide (0 ≤ b), .int k (k.wrap (a * 2 ^ min b.toNat k.bits)))
    | .shr => some (decide (0 ≤ b), .int k (a.fdiv (2 ^ min b.toNat k.bits)))
    | .and => some (true, .int k (bits .and k a b))
    | .or => some (true, .int k (bits .or k a b))
    | .xor => some (true, .int k (bits .xor k a b))
    | .andNot => some (true, .int k (bits .andNot k a b))
    | .eql => some (true, .bool (a == b))
    | .neq => some (true, .bool (a != b))
    | .lss => some (true, .bool (decide (a < b)))
    | .leq => some (true, .bool (decide (a ≤ b)))
    | .gtr => some (true, .bool (decide (a > b)))
    | .geq => some (true, .bool (decide (a ≥ b)))
def shiftB (op : BinOp) : Bool := match op with
  | .shl => true
  | .shr => true
  | _ => false
theorem cBinI_ok {P : Program} {op : BinOp} {t : TypeId} {xo yo : Operand} {k k' : IntKind} {a b : Int} (hk : k = k' ∨ shiftB op = true) {v : Value} (h : cBinI op k a b = some (true, v)) : ∃ ob, aBin P op t xo yo (.int k a) (.int k' b) = some (ob, v) ∧ ob := by
  unfold cBinI at h
  unfold aBin
  cases op
  all_goals
    simp only [Option.some.injEq, Prod.mk.injEq] at h
    obtain ⟨h1, rfl⟩ := h
    first
    | (rcases hk with rfl | hk
       · simp only [if_true]
         exact ⟨_, rfl, by first | trivial | exact of_decide_eq_true h1 | (simp at h1; exact h1)⟩
       · first
         | (cases hk; done)
         | exact ⟨_, rfl, of_decide_eq_true h1⟩)
def cBinS (op : BinOp) (a b : ByteArray) : Option (Bool × Value) := match op with
    | .add => some (decide (a.size + b.size ≤ maxLen), .string (a ++ b))
    | .eql => some (true, .bool (decide (a = b)))
    | .neq => some (true, .bool (!decide (a = b)))
    | .lss => some (true, .bool (Op.bytesLess a.toList b.toList))
    | _ => none
theorem cBinS_ok {P : Program} {op : BinOp} {t : TypeId} {xo yo : Operand} {a b : ByteArray} {v : Value} (h : cBinS op a b = some (true, v)) : ∃ ob, aBin P op t xo yo (.string a) (.string b) = some (ob, v) ∧ ob := by
  unfold cBinS at h
  unfold aBin
  cases op
  all_goals first
    | (cases h; done)
    | (simp only [Option.some.injEq, Prod.mk.injEq] at h
       obtain ⟨h1, rfl⟩ := h
       exact ⟨_, rfl, by first | trivial | exact of_decide_eq_true h1⟩)
/-- bools -/
def cBinB (P : Program) (op : BinOp) (t : TypeId) (a b : Bool) : Option Value := match P.underlying t with
  | some .bool => match op with
    | .eql => some (.bool (a == b))
    | .neq => some (.bool (a != b))
    | _ => none
  | _ => none
theorem cBinB_ok {P : Program} {op : BinOp} {t : TypeId} {xo yo : Operand} {a b : Bool} {v : Value} (h : cBinB P op t a b = some v) : ∃ ob, aBin P op t xo yo (.bool a) (.bool b) = some (ob, v) ∧ ob := by
  unfold cBinB at h
  split at h
  case h_2 => cases h
  rename_i hu
  have hg : ∀ op w, (eqGuard op t xo yo (.bool a) (.bool b)).run P w = .ok () w := by
    intro op w
    unfold eqGuard
    split <;> rfl
  have key : ∀ q : Bool, (∀ w, (do eqGuard op t xo yo (.bool a) (.bool b); binOp op t (.bool a) (.bool b) : Sem Value).run P w = .ok (.bool q) w) → v = .bool q → ∃ ob, aBin P op t xo yo (.bool a) (.bool b) = some (ob, v) ∧ ob := by
    intro q hq hv
    subst hv
    refine ⟨True, ?_, trivial⟩
    unfold aBin
    simp only [pureV_eq hq]
  split at h
  · injection h with h
    refine key (a == b) (fun w => ?_) h.symm
    rw [Sem.run_bind, hg, Result.andThen_ok, show binOp .eql t (.bool a) (.bool b) = (do pure (.bool (← Op.equal t (.bool a) (.bool b)))) from rfl, Sem.run_bind, run_equal_bool _ _ _ _ hu]
    rfl
  · injection h with h
    refine key (a != b) (fun w => ?_) h.symm
    rw [Sem.run_bind, hg, Result.andThen_ok, show binOp .neq t (.bool a) (.bool b) = (do pure (.bool (!(← Op.equal t (.bool a) (.bool b))))) from rfl, Sem.run_bind, run_equal_bool _ _ _ _ hu]
    rfl
  · cases h
/-- structs -/
def cBinA (P : Program) (op : BinOp) (t : TypeId) (a b : List Value) : Option Value := match flatEq P t a b with
  | some q => match op with
    | .eql => some (.bool q)
    | .neq => some (.bool !q)
    | _ => none
  | none => none
theorem cBinA_ok {P : Program} {op : BinOp} {t : TypeId} {xo yo : Operand} {a b : Array Value} {v : Value} (h : cBinA P op t a.toList b.toList = some v) : ∃ ob, aBin P op t xo yo (.agg a) (.agg b) = some (ob, v) ∧ ob := by
  unfold cBinA at h
  split at h
  case h_2 => cases h
  rename_i q hq
  refine ⟨True, ?_, trivial⟩
  unfold aBin
  split at h
  · injection h with h
    subst h
    have := pure_flat_eql (P := P) (t := t) (x := xo) (y := yo) (xs := a.toList) (ys := b.toList)
    rw [hq] at this
    simp only [Array.toArray_toList] at this
    simp only [this, orPure_eq]
  · injection h with h
    subst h
    have := pure_flat_neq (P := P) (t := t) (x := xo) (y := yo) (xs := a.toList) (ys := b.toList)
    rw [hq] at this
    simp only [Array.toArray_toList] at this
    simp only [this, orPure_ne]
  · cases h
end Go.Proofs.YtpdjaabjfhjppaaGreatDoor
