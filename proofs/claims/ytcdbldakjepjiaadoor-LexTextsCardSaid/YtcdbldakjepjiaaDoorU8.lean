/- The value logic with lasting memory, part 8: regions in the order of the text, code, loops. No program in sight. -/
import Derived.Test.YtcdbldakjepjiaaDoorU7
set_option linter.unusedVariables false
set_option linter.unusedSimpArgs false
namespace Go.Proofs.YtcdbldakjepjiaaDoor
open Go.RowKit

/-- An abstract state: the next new block's number, the slots, the blocks. -/
structure St where
  nx : Nat
  t : Tmps
  h : Heap

def evT (t : Tmps) : Operand → AV
  | .tmp k => tget t k
  | .const v => match v with
    | .agg cs => if cs.toList.all (·.oneCell') then .s (.agg (cs.toList.map .v)) else .s (.l .any)
    | v => .s (.l (.v v))
  | .global _ => .s (.l .any)
  | .func f => .s (.l (.v (.func (.func f) #[] #[])))

def putT (t : Tmps) : Option Tmp → AV → Tmps
  | none, _ => t
  | some d, r => (d, r) :: t

def dstOk (n : Nat) : Option Tmp → Bool
  | none => true
  | some d => decide (d < n)

/-- Is it a round of a range over a function, and which; how many blocks are pinned. -/
structure Cf where
  ro : Option Nat
  K : Nat

/-- The fence that shuts nothing out; in a round of a range over a function, or not. -/
def Fw (ro : Cf) : Fence := { Fence.wide with round := ro.ro }
theorem fw_room (ro : Cf) (n : Nat) : (Fw ro).room n := fun d hd => by simp [Fw, Fence.wide] at hd
theorem fw_fn (ro : Cf) (f : FuncId) : (Fw ro).fn f := trivial
theorem stepsIn_fw {P : Program} {ro : Cf} {m m' : Machine} : StepsIn (Machine.fenced P (Fw ro)) P m m' ↔ Steps P m m' := stepsIn_wide
theorem callsIn_fw {ro : Cf} {n : Nat} {P : Program} {f : FuncId} {args : Array Value} {w : World} {R : Ending → World → Prop} : CallsIn (Fw ro) n P f args w R ↔ Calls P f args w R := callsIn_wide

/-- what a range over a function leaves among the deferred calls -/
def mark (r : Nat) : Deferred := { target := .collected r, args := #[] }
def Marks (N : Nat) (d0 ds : List Deferred) (w : World) : Prop := ∃ rs : List Nat, rs.Nodup ∧ ds = rs.map mark ++ d0 ∧ ∀ r ∈ rs, N ≤ r ∧ w.heap[r]? = some (.deferred (some []))
theorem Marks.nil (N : Nat) (d0 : List Deferred) (w : World) : Marks N d0 d0 w := ⟨[], List.nodup_nil, rfl, by simp⟩
theorem Marks.keep {N : Nat} {d0 ds : List Deferred} {w w' : World} (h : Marks N d0 ds w) (hk : KeepsD w w') : Marks N d0 ds w' := by
  obtain ⟨rs, h1, h2, h3⟩ := h
  exact ⟨rs, h1, h2, fun r hr => ⟨(h3 r hr).1, hk.same r _ (h3 r hr).2 rfl⟩⟩

structure RepS (n : Nat) (B : Base) (w0 : World) (ρ : Nat → Loc) (al : Al) (s : St) (a : Act) (w : World) : Prop where
  size : a.tmps.size = n
  defers : Marks w0.heap.size B.ds a.defers w
  t : TRep ρ al s.t a.tmps
  w : WRep B w0 ρ al s.h w
  al : ∀ b, al b → b < s.nx

section
variable {P : Program} {ctx : Ctx P} {ro : Cf} {n : Nat} {B : Base} {w0 : World} {ρ : Nat → Loc} {al : Al} {s : St} {a : Act} {w : World}

theorem evT_rep {t : Tmps} (h : TRep ρ al t a.tmps) : ∀ x, ARep ρ al (evT t x) (a.eval x) := by
  intro x
  cases x with
  | tmp k => exact h k
  | const v =>
    simp only [evT]
    split
    · rename_i cs
      split
      · rename_i hc
        exact ⟨cs.toList, by simp [Act.eval], zs_rep (List.all_eq_true.1 hc)⟩
      · trivial
    · exact rfl
  | global g => trivial
  | func f => exact rfl

theorem TRep.putT {t : Tmps} (h : TRep ρ al t a.tmps) (hn : a.tmps.size = n) {d : Option Tmp} (hd : dstOk n d = true) {x : AV} {y : Value} (hx : ARep ρ al x y) : TRep ρ al (putT t d x) (a.put d y).tmps := by
  cases d with
  | none => exact h
  | some d => exact h.put (by rw [hn]; simpa [dstOk] using hd) hx

theorem put_size {d : Option Tmp} {v : Value} : (a.put d v).tmps.size = a.tmps.size := by cases d <;> simp [Act.put]
theorem put_defers {d : Option Tmp} {v : Value} : (a.put d v).defers = a.defers := by cases d <;> rfl

theorem aOp_noDefer {id : Nat} {o : Op} {ev : Operand → AV} {h : Heap} {R : Res} (hs : aOp P ctx id o ev h = some R) : ∀ c, o ≠ .defer c := by
  rintro c rfl
  simp only [aOp] at hs
  cases hs

/-- An operation, in a state that is known. -/
theorem aOp_wp (H : RepS n B w0 ρ al s a w) {o : Oper} {R : Res} {Q : Exit → Act → World → Prop} {K : Act → World → Prop} (hs : aOp P ctx s.nx o.op (evT s.t) s.h = some R) (hob : R.ob) (hd : dstOk n o.dst = true)
    (hK : ∀ ρ' al' a' w', RepS n B w0 ρ' al' ⟨s.nx + 16, putT s.t o.dst R.r, R.E ++ s.h⟩ a' w' → K a' w') : o.wpIn (Fw ro) 0 P a w K Q := by
  have hid : ∀ b, s.nx ≤ b → b < s.nx + 16 → ¬ al b := fun b h1 _ h2 => by have := H.al b h2; omega
  have hal : ∀ {b}, alW al s.nx b → b < s.nx + 16 := by
    rintro b (hb | hb)
    · have := H.al b hb; omega
    · exact hb.2
  have fin : ∀ v w' ρ' al', Ext ρ ρ' al al' → (∀ b, al' b → alW al s.nx b) → ARep ρ' al' R.r v → WRep ⟨B.S, al.M, B.pl, B.ds, H.w.gok⟩ w ρ' al' (R.E ++ s.h) w' → K (a.put o.dst v) w' := fun v w' ρ' al' hE hsub hr hw =>
    hK ρ' _ _ _ ⟨put_size.trans H.size, (by rw [put_defers]; exact H.defers.keep hw.below.kept), (H.t.ext hE).putT H.size hd hr, H.w.unbase hw, fun b hb => hal (hsub b hb)⟩
  refine ⟨fun _ _ => trivial, ?_⟩
  rw [Oper.semAt_eq _ _ _ (aOp_noDefer hs)]
  rcases aOp_runs H.w.rebase (evT_rep H.t) hid hs hob with ⟨m, v, w', ρ', hr, hm, hE, hA, hw⟩ | ⟨g, args, vals, hr, sp, hrun, vs, rfl, hA⟩
  · rw [hr]
    rcases hm with rfl | ⟨rfl, rfl⟩
    · exact fin v w' ρ' _ hE (fun _ hb => hb) hA hw
    · exact fin undef w' ρ' _ hE (fun _ hb => hb) hA hw
  · rw [hr]
    refine ⟨fun h => by simp [Fw, Fence.wide] at h, callsIn_fw.2 (Calls.mono (sp.sound hrun hob vs H.w.rebase hid hA) ?_)⟩
    rintro e w' ⟨v, ρ', al', rfl, hE, hsub, hr', hw⟩
    exact fin v w' ρ' al' hE hsub hr' hw

/-- An operation that panics. -/
theorem aPan_wp (H : RepS n B w0 ρ al s a w) {o : Oper} {ob : Prop} {x : Value} {E : Heap} {Q : Exit → Act → World → Prop} {K : Act → World → Prop} (hs : aPan P ctx s.nx o.op (evT s.t) s.h = some (ob, x, E)) (hob : ob)
    (hQ : ∀ ρ' al' w', RepS n B w0 ρ' al' ⟨s.nx + 16, s.t, E ++ s.h⟩ a w' → Q (.panic [{ v := x, recovered := false }]) a w') : o.wpIn (Fw ro) 0 P a w K Q := by
  have hid : ∀ b, s.nx ≤ b → b < s.nx + 16 → ¬ al b := fun b h1 _ h2 => by have := H.al b h2; omega
  have hal : ∀ {b}, alW al s.nx b → b < s.nx + 16 := by
    rintro b (hb | hb)
    · have := H.al b hb; omega
    · exact hb.2
  have hnd : ∀ c, o.op ≠ .defer c := by
    intro c hc
    rw [hc] at hs
    simp only [aPan] at hs
    cases hs
  refine ⟨fun _ _ => trivial, ?_⟩
  rw [Oper.semAt_eq _ _ _ hnd]
  rcases aPan_runs (w := w) (evT_rep H.t) hs with ⟨hr, rfl⟩ | ⟨g, args, vals, hr, sp, hrun, vs, rfl, hA⟩
  · rw [hr]
    exact hQ ρ al w ⟨H.size, H.defers, H.t, H.w, fun b hb => by have := H.al b hb; show b < s.nx + 16; omega⟩
  · rw [hr]
    refine ⟨fun h => by simp [Fw, Fence.wide] at h, callsIn_fw.2 (Calls.mono (sp.psound hrun hob vs H.w.rebase hid hA) ?_)⟩
    rintro e w' ⟨ρ', al', rfl, hE, hsub, hw⟩
    exact hQ ρ' al' w' ⟨H.size, H.defers.keep hw.below.kept, H.t.ext hE, H.w.unbase hw, fun b hb => hal (hsub b hb)⟩

/-- whether a guarded operation is carried out -/
def gAt (ops : List Oper) (t : Tmps) (j : Nat) : AV :=
  match ops[j]? with
  | some o => match o.dst with
    | some d => tget t d
    | none => .s (.l .any)
  | none => .s (.l .any)

/-- the guard's outcome is known from here on -/
def setG (ops : List Oper) (t : Tmps) (j : Nat) (b : Bool) : Tmps :=
  match ops[j]? with
  | some o => match o.dst with
    | some d => (d, .s (.l (.v (.bool b)))) :: t
    | none => t
  | none => t

theorem setG_rep {ops : List Oper} {t : Tmps} (h : TRep ρ al t a.tmps) {j : Nat} {q : Bool} (hg : gAt ops t j = .s (.l (.v (.bool q)))) : TRep ρ al (setG ops t j q) a.tmps := by
  unfold gAt at hg
  unfold setG
  split at hg
  case h_2 => cases hg
  rename_i o ho
  split at hg
  case h_2 => cases hg
  rename_i d hd
  intro k
  rw [tget]
  split
  · rename_i e
    subst e
    have := h d
    rw [hg] at this
    exact this
  · exact h k

theorem undef_any : ARep ρ al (.s (.l .any)) undef := trivial

theorem undef_rep : ARep ρ al (.s (.l (.v (.tuple #[])))) undef := rfl

theorem gAt_none {ops : List Oper} {t : Tmps} (h : TRep ρ al t a.tmps) {j : Nat} (hg : gAt ops t j = .s (.l (.v (.tuple ⟨[]⟩)))) : yielded ops.toArray a.tmps j = none := by
  unfold gAt at hg
  split at hg
  case h_2 => cases hg
  rename_i o ho
  split at hg
  case h_2 => cases hg
  rename_i d hd
  have := h d
  rw [hg] at this
  have hv : a.tmps.getD d undef = .tuple ⟨[]⟩ := this
  have ho' : ops.toArray[j]? = some o := by simpa using ho
  simp only [yielded, ho', Option.bind_some, hd]
  rcases Nat.lt_or_ge d a.tmps.size with hlt | hlt
  · rw [Array.getD_eq_getD_getElem?, Array.getElem?_eq_getElem hlt] at hv
    simp only [Option.getD_some] at hv
    simp only [Array.getElem?_eq_getElem hlt, hv]
  · simp only [Array.getElem?_eq_none hlt]

theorem gAt_yield {ops : List Oper} {t : Tmps} (h : TRep ρ al t a.tmps) (hn : a.tmps.size = n) {j : Nat} {q : Bool} (hg : gAt ops t j = .s (.l (.v (.bool q)))) : yielded ops.toArray a.tmps j = some q := by
  unfold gAt at hg
  split at hg
  case h_2 => cases hg
  rename_i o ho
  split at hg
  case h_2 => cases hg
  rename_i d hd
  have := h d
  rw [hg] at this
  have hv : a.tmps.getD d undef = .bool q := this
  have hlt : d < a.tmps.size := by
    rcases Nat.lt_or_ge d a.tmps.size with h1 | h1
    · exact h1
    · rw [Array.getD_eq_getD_getElem?, Array.getElem?_eq_none h1] at hv; cases hv
  rw [Array.getD_eq_getD_getElem?, Array.getElem?_eq_getElem hlt] at hv
  simp only [Option.getD_some] at hv
  simp [yielded, ho, hd, Array.getElem?_eq_getElem hlt, hv]

end

/-! ### Code -/
/-- What code does, in a state that is known. -/
def SW (P : Program) (ro : Cf) (n : Nat) (c : Code) (s : St) (Q : Exit → St → Prop) : Prop :=
  ∀ B w0 ρ al a w, B.pl.length = ro.K → RepS n B w0 ρ al s a w → c.wpIn (Fw ro) 0 P (fun e a' w' => ∃ ρ' al' s', RepS n B w0 ρ' al' s' a' w' ∧ Q e s') a w

def thenQ (K : St → Prop) (Q : Exit → St → Prop) : Exit → St → Prop
  | .normal, s => K s
  | e, s => Q e s

def blockQ (id : Nat) (Q : Exit → St → Prop) : Exit → St → Prop
  | .exit j, s => if j = id then Q .normal s else Q (.exit j) s
  | e, s => Q e s

section
variable {P : Program} {ctx : Ctx P} {ro : Cf} {n : Nat} {s : St} {Q Q' : Exit → St → Prop}

theorem SW.mono {c : Code} (h : SW P ro n c s Q) (hq : ∀ e s, Q e s → Q' e s) : SW P ro n c s Q' :=
  fun B w0 ρ al a w hpl H => wpIn_mono (h B w0 ρ al a w hpl H) fun _ _ _ ⟨ρ', al', s', H', q⟩ => ⟨ρ', al', s', H', hq _ _ q⟩

theorem sw_seq {x y : Code} (h : SW P ro n x s (thenQ (fun s' => SW P ro n y s' Q) Q)) : SW P ro n (.seq x y) s Q := by
  intro B w0 ρ al a w hpl H
  refine wpIn_seq (wpIn_mono (h B w0 ρ al a w hpl H) ?_)
  rintro e a' w' ⟨ρ', al', s', H', q⟩
  cases e with
  | normal => exact q B w0 ρ' al' a' w' hpl H'
  | _ => exact ⟨ρ', al', s', H', q⟩

theorem sw_cond {c : Operand} {x y : Code} {q : Bool} (hc : evT s.t c = .s (.l (.v (.bool q)))) (h1 : q = true → SW P ro n x s Q) (h2 : q = false → SW P ro n y s Q) : SW P ro n (.cond c x y) s Q := by
  intro B w0 ρ al a w hpl H
  have := evT_rep H.t c
  rw [hc] at this
  have hv : a.eval c = .bool q := this
  exact wpIn_cond_split hv (fun e => h1 e B w0 ρ al a w hpl H) (fun e => h2 e B w0 ρ al a w hpl H)

theorem sw_block {id : Nat} {c : Code} (h : SW P ro n c s (blockQ id Q)) : SW P ro n (.block id c) s Q := by
  intro B w0 ρ al a w hpl H
  refine wpIn_block (wpIn_mono (h B w0 ρ al a w hpl H) ?_)
  rintro e a' w' ⟨ρ', al', s', H', q⟩
  cases e with
  | exit j =>
    simp only [blockQ] at q
    simp only [Exit.inBlock]
    split
    · rename_i e; rw [if_pos e] at q; exact ⟨ρ', al', s', H', q⟩
    · rename_i e; rw [if_neg e] at q; exact ⟨ρ', al', s', H', q⟩
  | _ => exact ⟨ρ', al', s', H', q⟩

/-- what is still to be done: code, the rest of a region, the end of a block -/
inductive Itm where
  | c (x : Code)
  | o (all rest : List Oper)
  | b (id : Nat)

def popTo (id : Nat) : List Itm → Option (List Itm)
  | .b j :: r => if j = id then some r else popTo id r
  | .c _ :: r => popTo id r
  | .o _ _ :: r => popTo id r
  | [] => none

noncomputable def aRun (P : Program) (ctx : Ctx P) (ro : Cf) (n : Nat) : Nat → List Itm → St → (Exit → St → Prop) → Prop
  | 0, _, _, _ => False
  | _ + 1, [], s, Q => Q .normal s
  | f + 1, .b _ :: r, s, Q => aRun P ctx ro n f r s Q
  | f + 1, .o _ [] :: r, s, Q => aRun P ctx ro n f r s Q
  | f + 1, .o all (o :: l) :: r, s, Q => match o.guard with
    | none => match aPan P ctx s.nx o.op (evT s.t) s.h with
      | some (ob, x, E) => ob ∧ Q (.panic [{ v := x, recovered := false }]) ⟨s.nx + 16, s.t, E ++ s.h⟩
      | none => match aOp P ctx s.nx o.op (evT s.t) s.h with
        | some R => dstOk n o.dst = true ∧ R.ob ∧ aRun P ctx ro n f (.o all l :: r) ⟨s.nx + 16, putT s.t o.dst R.r, R.E ++ s.h⟩ Q
        | none => False
    | some (j, want) => match gAt all s.t j with
      | .s (.l (.v (.bool q))) => dstOk n o.dst = true ∧
          (q = want → match aPan P ctx s.nx o.op (evT (setG all s.t j want)) s.h with
            | some (ob, x, E) => ob ∧ Q (.panic [{ v := x, recovered := false }]) ⟨s.nx + 16, setG all s.t j want, E ++ s.h⟩
            | none => match aOp P ctx s.nx o.op (evT (setG all s.t j want)) s.h with
              | some R => dstOk n o.dst = true ∧ R.ob ∧ aRun P ctx ro n f (.o all l :: r) ⟨s.nx + 16, putT (setG all s.t j want) o.dst R.r, R.E ++ s.h⟩ Q
              | none => False) ∧
          (q = !want → aRun P ctx ro n f (.o all l :: r) ⟨s.nx, putT (setG all s.t j (!want)) o.dst (.s (.l (.v (.tuple #[])))), s.h⟩ Q)
      | .s (.l (.v (.tuple ⟨[]⟩))) => dstOk n o.dst = true ∧ aRun P ctx ro n f (.o all l :: r) ⟨s.nx, putT s.t o.dst (.s (.l (.v (.tuple #[])))), s.h⟩ Q
      | _ => False
  | f + 1, .c x :: r, s, Q => match x with
    | .skip => aRun P ctx ro n f r s Q
    | .label _ => aRun P ctx ro n f r s Q
    | .ret => Q .ret s
    | .exit id => match popTo id r with
      | some r' => aRun P ctx ro n f r' s Q
      | none => Q (.exit id) s
    | .seq x y => aRun P ctx ro n f (.c x :: .c y :: r) s Q
    | .cond c x y => match evT s.t c with
      | .s (.l (.v (.bool q))) => (q = true → aRun P ctx ro n f (.c x :: r) s Q) ∧ (q = false → aRun P ctx ro n f (.c y :: r) s Q)
      | _ => False
    | .block id x => aRun P ctx ro n f (.c x :: .b id :: r) s Q
    | .region _ ops false => aRun P ctx ro n f (.o ops.toList ops.toList :: r) s Q
    | x => SW P ro n x s (fun e s' => match e with
      | .normal => aRun P ctx ro n f r s' Q
      | .exit id => match popTo id r with
        | some r' => aRun P ctx ro n f r' s' Q
        | none => Q (.exit id) s'
      | e => Q e s')

def Itm.item : Itm → Item
  | .c x => .code x
  | .b id => .inBlock id
  | .o _ _ => .code .skip

def noO : List Itm → Bool
  | [] => true
  | .o _ _ :: _ => false
  | _ :: r => noO r

theorem popTo_noO {id : Nat} : ∀ {r r' : List Itm}, noO r = true → popTo id r = some r' → noO r' = true
  | [], _, _, h => by cases h
  | .o _ _ :: _, _, h, _ => by cases h
  | .c _ :: r, r', h, hp => popTo_noO (r := r) h hp
  | .b j :: r, r', h, hp => by
    simp only [popTo] at hp
    split at hp
    · injection hp with hp; subst hp; exact h
    · exact popTo_noO (r := r) h hp

theorem exitTo_pop {id : Nat} (k : List Item) : ∀ {r : List Itm}, noO r = true → exitTo id (r.map Itm.item ++ k) = match popTo id r with
    | some r' => some (r'.map Itm.item ++ k)
    | none => exitTo id k
  | [], _ => rfl
  | .o _ _ :: _, h => by cases h
  | .c _ :: r, h => by simpa [exitTo, Itm.item, popTo] using exitTo_pop k (r := r) h
  | .b j :: r, h => by
    simp only [List.map_cons, Itm.item, List.cons_append, exitTo, popTo]
    by_cases e : j = id
    · simp [e]
    · have : (j == id) = false := by simpa using e
      simp only [this, if_neg e]
      simpa using exitTo_pop k (r := r) h

theorem gotoIn_pop {l : Nat} (k : List Item) : ∀ {r : List Itm}, noO r = true → gotoIn l (r.map Itm.item ++ k) = gotoIn l k
  | [], _ => rfl
  | .o _ _ :: _, h => by cases h
  | .c _ :: r, h => by simpa [gotoIn, Itm.item] using gotoIn_pop k (r := r) h
  | .b j :: r, h => by simpa [gotoIn, Itm.item] using gotoIn_pop k (r := r) h

/-- what is still to be done ends as is said -/
def Good (P : Program) (ro : Cf) (n : Nat) (B : Base) (w0 : World) (Q : Exit → St → Prop) (b : Frame) (k : List Item) (cs : List Frame) (r : List Itm) (a : Act) (w : World) : Prop :=
  ∃ e a' w', (∃ ρ al s, RepS n B w0 ρ al s a' w' ∧ Q e s) ∧ ArrivesIn (Machine.fenced P (Fw ro)) P (lone (b.atR a (r.map Itm.item ++ k)) cs w) b k cs e a' w'

theorem Good.step {B : Base} {w0 : World} {b : Frame} {k : List Item} {cs : List Frame} {r r' : List Itm} {a a' : Act} {w w' : World} (hs : StepsIn (Machine.fenced P (Fw ro)) P (lone (b.atR a (r.map Itm.item ++ k)) cs w) (lone (b.atR a' (r'.map Itm.item ++ k)) cs w')) (h : Good P ro n B w0 Q b k cs r' a' w') : Good P ro n B w0 Q b k cs r a w := by
  obtain ⟨e, a2, w2, h1, h2⟩ := h
  exact ⟨e, a2, w2, h1, .of_steps hs h2⟩

theorem one_fw {m m' : Machine} (h : step P m = .next m') : StepsIn (Machine.fenced P (Fw ro)) P m m' := stepsIn_fw.2 (.one h)

/-- the end of a region: on with the rest; or a panic -/
def regQ (P : Program) (ro : Cf) (n : Nat) (B : Base) (w0 : World) (Q : Exit → St → Prop) (b : Frame) (k : List Item) (cs : List Frame) (r : List Itm) : Exit → Act → World → Prop
  | .normal, a, w => Good P ro n B w0 Q b k cs r a w
  | .panic ch, a, w => ∃ ρ al s, RepS n B w0 ρ al s a w ∧ Q (.panic ch) s
  | _, _, _ => False

theorem aRun_good {B : Base} {w0 : World} {b : Frame} {k : List Item} {cs : List Frame} (hpl : B.pl.length = ro.K) (hb : b.roundOf = ro.ro) : ∀ (f : Nat),
    (∀ (r : List Itm) (s : St) (ρ : Nat → Loc) (al : Al) (a : Act) (w : World), noO r = true → RepS n B w0 ρ al s a w → aRun P ctx ro n f r s Q → Good P ro n B w0 Q b k cs r a w) ∧
    (∀ (all l : List Oper) (r : List Itm) (s : St) (ρ : Nat → Loc) (al : Al) (a : Act) (w : World), noO r = true → RepS n B w0 ρ al s a w → aRun P ctx ro n f (.o all l :: r) s Q → wpListIn (Fw ro) 0 P all.toArray (regQ P ro n B w0 Q b k cs r) l a w)
  | 0 => ⟨fun r s ρ al a w _ _ h => by simp only [aRun] at h, fun all l r s ρ al a w _ _ h => by simp only [aRun] at h⟩
  | f + 1 => by
    obtain ⟨ih1, ih2⟩ := aRun_good (B := B) (w0 := w0) (b := b) (k := k) (cs := cs) hpl hb f
    refine ⟨fun r s ρ al a w hr H h => ?_, fun all l r s ρ al a w hr H h => ?_⟩
    · cases r with
      | nil => exact ⟨.normal, a, w, ⟨ρ, al, s, H, by simpa only [aRun] using h⟩, .refl _⟩
      | cons x r =>
        cases x with
        | o _ _ => cases hr
        | b id => exact Good.step (one_fw stepR_inBlock) (ih1 r s ρ al a w hr H (by simpa only [aRun] using h))
        | c x =>
          have viaSW : SW P ro n x s (fun e s' => match e with
              | .normal => aRun P ctx ro n f r s' Q
              | .exit id => match popTo id r with
                | some r' => aRun P ctx ro n f r' s' Q
                | none => Q (.exit id) s'
              | e => Q e s') → Good P ro n B w0 Q b k cs (.c x :: r) a w := by
            intro hsw
            obtain ⟨e, a', w', ⟨ρ', al', s', H', hq⟩, harr⟩ := hsw B w0 ρ al a w hpl H b (r.map Itm.item ++ k) cs hb trivial (fw_room _ _)
            cases e with
            | normal => exact Good.step harr (ih1 r s' ρ' al' a' w' hr H' hq)
            | exit id =>
              have hx := exitTo_pop (id := id) k (r := r) hr
              simp only at hq
              cases hp : popTo id r with
              | some r' =>
                rw [hp] at hq hx
                exact Good.step (harr.1 _ hx) (ih1 r' s' ρ' al' a' w' (popTo_noO hr hp) H' hq)
              | none =>
                rw [hp] at hq hx
                exact ⟨.exit id, a', w', ⟨ρ', al', s', H', hq⟩, fun k' hk => harr.1 k' (hx.trans hk), fun hro hk => harr.2 hro (hx.trans hk)⟩
            | goto l => exact ⟨.goto l, a', w', ⟨ρ', al', s', H', hq⟩, fun k' hk => harr.1 k' ((gotoIn_pop k hr).trans hk), fun hro hk => harr.2 hro ((gotoIn_pop k hr).trans hk)⟩
            | ret => exact ⟨.ret, a', w', ⟨ρ', al', s', H', hq⟩, harr⟩
            | panic ch => exact ⟨.panic ch, a', w', ⟨ρ', al', s', H', hq⟩, harr⟩
            | outgrown => exact ⟨.outgrown, a', w', ⟨ρ', al', s', H', hq⟩, harr⟩
          cases x with
          | skip => exact Good.step (one_fw stepR_skip) (ih1 r s ρ al a w hr H (by simpa only [aRun] using h))
          | label l => exact Good.step (one_fw stepR_label) (ih1 r s ρ al a w hr H (by simpa only [aRun] using h))
          | ret => exact ⟨.ret, a, w, ⟨ρ, al, s, H, by simpa only [aRun] using h⟩, fun hn => ⟨_, one_fw (stepR_ret hn)⟩, fun _ => ⟨_, .refl _⟩⟩
          | exit id =>
            have hx := exitTo_pop (id := id) k (r := r) hr
            simp only [aRun] at h
            cases hp : popTo id r with
            | some r' =>
              rw [hp] at h hx
              exact Good.step (one_fw (stepR_exit hx)) (ih1 r' s ρ al a w (popTo_noO hr hp) H h)
            | none =>
              rw [hp] at h hx
              exact ⟨.exit id, a, w, ⟨ρ, al, s, H, h⟩, fun k' hk => one_fw (stepR_exit (hx.trans hk)), fun _ hk => ⟨_, hx.trans hk, .refl _⟩⟩
          | seq x y => exact Good.step (r' := .c x :: .c y :: r) (one_fw stepR_seq) (ih1 _ s ρ al a w hr H (by simpa only [aRun] using h))
          | block id x => exact Good.step (r' := .c x :: .b id :: r) (one_fw stepR_block) (ih1 _ s ρ al a w hr H (by simpa only [aRun] using h))
          | cond c x y =>
            simp only [aRun] at h
            split at h
            case h_2 => exact h.elim
            rename_i q hq
            have hv := evT_rep H.t c
            rw [hq] at hv
            have hv' : a.eval c = .bool q := hv
            cases q with
            | true => exact Good.step (r' := .c x :: r) (one_fw (stepR_cond hv')) (ih1 _ s ρ al a w hr H (h.1 rfl))
            | false => exact Good.step (r' := .c y :: r) (one_fw (stepR_cond hv')) (ih1 _ s ρ al a w hr H (h.2 rfl))
          | region id ops draw =>
            cases draw with
            | true => exact viaSW (by simpa only [aRun] using h)
            | false =>
              have hl := ih2 ops.toList ops.toList r s ρ al a w hr H (by simpa only [aRun] using h)
              rw [Array.toArray_toList] at hl
              obtain ⟨e, a', w', hq, harr⟩ := wpIn_region_list (id := id) hl b (r.map Itm.item ++ k) cs hb trivial (fw_room _ _)
              cases e with
              | normal => exact Good.step (r := .c (.region id ops false) :: r) harr hq
              | panic ch => exact ⟨.panic ch, a', w', hq, harr⟩
              | exit _ => exact hq.elim
              | goto _ => exact hq.elim
              | ret => exact hq.elim
              | outgrown => exact hq.elim
          | loop x => exact viaSW (by simpa only [aRun] using h)
          | rangeFunc _ _ _ _ => exact viaSW (by simpa only [aRun] using h)
          | scope x => exact viaSW (by simpa only [aRun] using h)
          | goto l => exact viaSW (by simpa only [aRun] using h)
          | refuse y => exact viaSW (by simpa only [aRun] using h)
    · cases l with
      | nil => exact ih1 r s ρ al a w hr H (by simpa only [aRun] using h)
      | cons o l =>
        unfold wpListIn
        simp only [aRun] at h
        split at h
        · rename_i hg
          rw [if_pos (by simp [Region.wanted, hg])]
          split at h
          · rename_i ob x E hp
            exact aPan_wp H hp h.1 fun ρ' al' w' H' => ⟨ρ', al', _, H', h.2⟩
          · split at h
            case h_2 => exact h.elim
            rename_i R hR
            obtain ⟨h1, h2, h3⟩ := h
            exact aOp_wp H hR h2 h1 fun ρ' al' a' w' H' => ih2 all l r _ ρ' al' a' w' hr H' h3
        · rename_i j want hg
          split at h
          case h_3 => exact h.elim
          case h_2 =>
            rename_i hq
            rw [if_neg (by simp [Region.wanted, hg, gAt_none H.t hq])]
            exact ⟨fun _ _ => trivial, ih2 all l r ⟨s.nx, putT s.t o.dst (.s (.l (.v (.tuple #[])))), s.h⟩ ρ al _ w hr ⟨put_size.trans H.size, (by rw [put_defers]; exact H.defers), H.t.putT H.size h.1 undef_rep, H.w, H.al⟩ h.2⟩
          rename_i q hq
          obtain ⟨h1, h2, h3⟩ := h
          have hy := gAt_yield H.t H.size hq
          have hset := setG_rep H.t hq
          by_cases hqw : q = want
          · rw [if_pos (by simp [Region.wanted, hg, hy, hqw])]
            have h4 := h2 hqw
            rw [hqw] at hset
            split at h4
            · rename_i ob x E hp
              exact aPan_wp (s := ⟨s.nx, setG all s.t j want, s.h⟩) ⟨H.size, H.defers, hset, H.w, H.al⟩ hp h4.1 fun ρ' al' w' H' => ⟨ρ', al', _, H', h4.2⟩
            · split at h4
              case h_2 => exact h4.elim
              rename_i R hR
              exact aOp_wp (s := ⟨s.nx, setG all s.t j want, s.h⟩) ⟨H.size, H.defers, hset, H.w, H.al⟩ hR h4.2.1 h1 fun ρ' al' a' w' H' => ih2 all l r _ ρ' al' a' w' hr H' h4.2.2
          · rw [if_neg (by simp [Region.wanted, hg, hy, hqw])]
            have hqn : q = !want := by cases q <;> cases want <;> simp_all
            rw [hqn] at hset
            exact ⟨fun _ _ => trivial, ih2 all l r ⟨s.nx, putT (setG all s.t j (!want)) o.dst (.s (.l (.v (.tuple #[])))), s.h⟩ ρ al _ w hr ⟨put_size.trans H.size, (by rw [put_defers]; exact H.defers), hset.putT H.size h1 undef_rep, H.w, H.al⟩ (h3 hqn)⟩

theorem aRun_sound {c : Code} (f : Nat) (h : aRun P ctx ro n f [.c c] s Q) : SW P ro n c s Q := fun B w0 ρ al a w hpl H b k cs hb _ _ => by
  obtain ⟨e, a', w', h1, h2⟩ := (aRun_good hpl hb f).1 [.c c] s ρ al a w rfl H h
  exact ⟨e, a', w', h1, h2⟩

/-! ### Equations for the evaluation, one for each form -/
def aPanQ (nx : Nat) (t : Tmps) (h : Heap) (Q : Exit → St → Prop) (rest : Prop) : Option (Prop × Value × Heap) → Prop
  | some (ob, x, E) => ob ∧ Q (.panic [{ v := x, recovered := false }]) ⟨nx + 16, t, E ++ h⟩
  | none => rest
theorem aPanQ_none {nx : Nat} {t : Tmps} {h : Heap} {rest : Prop} : aPanQ nx t h Q rest none = rest := rfl
theorem aPanQ_some {nx : Nat} {t : Tmps} {h : Heap} {rest : Prop} {ob : Prop} {x : Value} {E : Heap} : aPanQ nx t h Q rest (some (ob, x, E)) = (ob ∧ Q (.panic [{ v := x, recovered := false }]) ⟨nx + 16, t, E ++ h⟩) := rfl

def aCont (P : Program) (ctx : Ctx P) (ro : Cf) (n f : Nat) (all l : List Oper) (r : List Itm) (d : Option Tmp) (s : St) (Q : Exit → St → Prop) : Option Res → Prop
  | some R => dstOk n d = true ∧ R.ob ∧ aRun P ctx ro n f (.o all l :: r) ⟨s.nx + 16, putT s.t d R.r, R.E ++ s.h⟩ Q
  | none => False

def aGd (P : Program) (ctx : Ctx P) (ro : Cf) (n f : Nat) (all : List Oper) (o : Oper) (l : List Oper) (r : List Itm) (s : St) (Q : Exit → St → Prop) (j : Nat) (want : Bool) : AV → Prop
  | .s (.l (.v (.bool q))) => dstOk n o.dst = true ∧
      (q = want → aPanQ s.nx (setG all s.t j want) s.h Q (aCont P ctx ro n f all l r o.dst ⟨s.nx, setG all s.t j want, s.h⟩ Q (aOp P ctx s.nx o.op (evT (setG all s.t j want)) s.h)) (aPan P ctx s.nx o.op (evT (setG all s.t j want)) s.h)) ∧
      (q = !want → aRun P ctx ro n f (.o all l :: r) ⟨s.nx, putT (setG all s.t j (!want)) o.dst (.s (.l (.v (.tuple #[])))), s.h⟩ Q)
  | .s (.l (.v (.tuple ⟨[]⟩))) => dstOk n o.dst = true ∧ aRun P ctx ro n f (.o all l :: r) ⟨s.nx, putT s.t o.dst (.s (.l (.v (.tuple #[])))), s.h⟩ Q
  | _ => False

def aBr (P : Program) (ctx : Ctx P) (ro : Cf) (n f : Nat) (x y : Code) (r : List Itm) (s : St) (Q : Exit → St → Prop) : AV → Prop
  | .s (.l (.v (.bool q))) => (q = true → aRun P ctx ro n f (.c x :: r) s Q) ∧ (q = false → aRun P ctx ro n f (.c y :: r) s Q)
  | _ => False

section
variable {f : Nat} {r : List Itm}
theorem aRun_nil : aRun P ctx ro n (f + 1) [] s Q = Q .normal s := by simp only [aRun]
theorem aRun_b {id : Nat} : aRun P ctx ro n (f + 1) (.b id :: r) s Q = aRun P ctx ro n f r s Q := by simp only [aRun]
theorem aRun_o0 {all : List Oper} : aRun P ctx ro n (f + 1) (.o all [] :: r) s Q = aRun P ctx ro n f r s Q := by simp only [aRun]
theorem aRun_o1 {all l : List Oper} {d : Option Tmp} {op : Op} {t : TypeId} {p : String} {af : Array Edge} : aRun P ctx ro n (f + 1) (.o all (⟨d, op, t, p, af, none⟩ :: l) :: r) s Q = aPanQ s.nx s.t s.h Q (aCont P ctx ro n f all l r d s Q (aOp P ctx s.nx op (evT s.t) s.h)) (aPan P ctx s.nx op (evT s.t) s.h) := by
  simp only [aRun, aCont, aPanQ]
theorem aRun_o2 {all l : List Oper} {d : Option Tmp} {op : Op} {t : TypeId} {p : String} {af : Array Edge} {j : Nat} {want : Bool} : aRun P ctx ro n (f + 1) (.o all (⟨d, op, t, p, af, some (j, want)⟩ :: l) :: r) s Q = aGd P ctx ro n f all ⟨d, op, t, p, af, some (j, want)⟩ l r s Q j want (gAt all s.t j) := by
  simp only [aRun, aGd, aCont, aPanQ]
theorem aRun_skip : aRun P ctx ro n (f + 1) (.c .skip :: r) s Q = aRun P ctx ro n f r s Q := by simp only [aRun]
theorem aRun_label {l : Nat} : aRun P ctx ro n (f + 1) (.c (.label l) :: r) s Q = aRun P ctx ro n f r s Q := by simp only [aRun]
theorem aRun_ret : aRun P ctx ro n (f + 1) (.c .ret :: r) s Q = Q .ret s := by simp only [aRun]
theorem aRun_seq {x y : Code} : aRun P ctx ro n (f + 1) (.c (.seq x y) :: r) s Q = aRun P ctx ro n f (.c x :: .c y :: r) s Q := by simp only [aRun]
theorem aRun_block {id : Nat} {x : Code} : aRun P ctx ro n (f + 1) (.c (.block id x) :: r) s Q = aRun P ctx ro n f (.c x :: .b id :: r) s Q := by simp only [aRun]
theorem aRun_cond {c : Operand} {x y : Code} : aRun P ctx ro n (f + 1) (.c (.cond c x y) :: r) s Q = aBr P ctx ro n f x y r s Q (evT s.t c) := by
  simp only [aRun, aBr]
theorem aRun_region {id : Nat} {l : List Oper} : aRun P ctx ro n (f + 1) (.c (.region id l.toArray false) :: r) s Q = aRun P ctx ro n f (.o l l :: r) s Q := by simp only [aRun, List.toList_toArray]

def aEx (P : Program) (ctx : Ctx P) (ro : Cf) (n f id : Nat) (s : St) (Q : Exit → St → Prop) : Option (List Itm) → Prop
  | some r' => aRun P ctx ro n f r' s Q
  | none => Q (.exit id) s
theorem aRun_exit {id : Nat} : aRun P ctx ro n (f + 1) (.c (.exit id) :: r) s Q = aEx P ctx ro n f id s Q (popTo id r) := by
  simp only [aRun, aEx]
/-- what stands behind code that is looked at by itself (a loop, a region that draws its order) -/
def afterQ (P : Program) (ctx : Ctx P) (ro : Cf) (n f : Nat) (r : List Itm) (Q : Exit → St → Prop) : Exit → St → Prop
  | .normal, s => aRun P ctx ro n f r s Q
  | .exit id, s => aEx P ctx ro n f id s Q (popTo id r)
  | e, s => Q e s
theorem aRun_loop {x : Code} : aRun P ctx ro n (f + 1) (.c (.loop x) :: r) s Q = SW P ro n (.loop x) s (afterQ P ctx ro n f r Q) := by
  simp only [aRun]
  congr 1
  funext e s'
  cases e <;> simp only [afterQ, aEx]
theorem aRun_draw {id : Nat} {ops : Array Oper} : aRun P ctx ro n (f + 1) (.c (.region id ops true) :: r) s Q = SW P ro n (.region id ops true) s (afterQ P ctx ro n f r Q) := by
  simp only [aRun]
  congr 1
  funext e s'
  cases e <;> simp only [afterQ, aEx]
theorem afterQ_normal : afterQ P ctx ro n f r Q .normal s = aRun P ctx ro n f r s Q := rfl
theorem afterQ_exit {id : Nat} : afterQ P ctx ro n f r Q (.exit id) s = aEx P ctx ro n f id s Q (popTo id r) := rfl
theorem afterQ_ret : afterQ P ctx ro n f r Q .ret s = Q .ret s := rfl
theorem aEx_some {id : Nat} {r' : List Itm} : aEx P ctx ro n f id s Q (some r') = aRun P ctx ro n f r' s Q := rfl
theorem aEx_none {id : Nat} : aEx P ctx ro n f id s Q none = Q (.exit id) s := rfl
theorem aCont_some {all l : List Oper} {d : Option Tmp} {ob : Prop} {x : AV} {E : Heap} : aCont P ctx ro n f all l r d s Q (some ⟨ob, x, E⟩) = (dstOk n d = true ∧ ob ∧ aRun P ctx ro n f (.o all l :: r) ⟨s.nx + 16, putT s.t d x, E ++ s.h⟩ Q) := rfl
theorem aCont_none {all l : List Oper} {d : Option Tmp} : aCont P ctx ro n f all l r d s Q none = False := rfl
theorem aBr_true {x y : Code} : aBr P ctx ro n f x y r s Q (.s (.l (.v (.bool true)))) = aRun P ctx ro n f (.c x :: r) s Q := by simp [aBr]
theorem aBr_false {x y : Code} : aBr P ctx ro n f x y r s Q (.s (.l (.v (.bool false)))) = aRun P ctx ro n f (.c y :: r) s Q := by simp [aBr]
theorem aBr_any {x y : Code} {q : Bool} : aBr P ctx ro n f x y r s Q (.s (.l (.v (.bool q)))) = ((q = true → aRun P ctx ro n f (.c x :: r) s Q) ∧ (q = false → aRun P ctx ro n f (.c y :: r) s Q)) := rfl
theorem aBr_dec {x y : Code} {p : Prop} [Decidable p] : aBr P ctx ro n f x y r s Q (.s (.l (.v (.bool (decide p))))) = ((p → aRun P ctx ro n f (.c x :: r) s Q) ∧ (¬ p → aRun P ctx ro n f (.c y :: r) s Q)) := by simp [aBr]
theorem aBr_not {x y : Code} {q : Bool} : aBr P ctx ro n f x y r s Q (.s (.l (.v (.bool (!q))))) = aBr P ctx ro n f y x r s Q (.s (.l (.v (.bool q)))) := by
  simp only [aBr, Bool.not_eq_true', Bool.not_eq_false']
  exact propext And.comm
theorem aBr_beq {x y : Code} {u v : Int} : aBr P ctx ro n f x y r s Q (.s (.l (.v (.bool (u == v))))) = ((u = v → aRun P ctx ro n f (.c x :: r) s Q) ∧ (¬ u = v → aRun P ctx ro n f (.c y :: r) s Q)) := by simp [aBr]
theorem aBr_bne {x y : Code} {u v : Int} : aBr P ctx ro n f x y r s Q (.s (.l (.v (.bool (u != v))))) = ((u = v → aRun P ctx ro n f (.c y :: r) s Q) ∧ (¬ u = v → aRun P ctx ro n f (.c x :: r) s Q)) := by
  simp [aBr]
  exact And.comm
section
variable {all l : List Oper} {o : Oper} {j : Nat} {want : Bool}
theorem aGd_yes (h : dstOk n o.dst = true) : aGd P ctx ro n f all o l r s Q j want (.s (.l (.v (.bool want)))) = aPanQ s.nx (setG all s.t j want) s.h Q (aCont P ctx ro n f all l r o.dst ⟨s.nx, setG all s.t j want, s.h⟩ Q (aOp P ctx s.nx o.op (evT (setG all s.t j want)) s.h)) (aPan P ctx s.nx o.op (evT (setG all s.t j want)) s.h) := by
  cases want <;> simp [aGd, h]
theorem aGd_tf (h : dstOk n o.dst = true) : aGd P ctx ro n f all o l r s Q j true (.s (.l (.v (.bool false)))) = aRun P ctx ro n f (.o all l :: r) ⟨s.nx, putT (setG all s.t j false) o.dst (.s (.l (.v (.tuple #[])))), s.h⟩ Q := by simp [aGd, h]
theorem aGd_ft (h : dstOk n o.dst = true) : aGd P ctx ro n f all o l r s Q j false (.s (.l (.v (.bool true)))) = aRun P ctx ro n f (.o all l :: r) ⟨s.nx, putT (setG all s.t j true) o.dst (.s (.l (.v (.tuple #[])))), s.h⟩ Q := by simp [aGd, h]
theorem aGd_skip (h : dstOk n o.dst = true) : aGd P ctx ro n f all o l r s Q j want (.s (.l (.v (.tuple #[])))) = aRun P ctx ro n f (.o all l :: r) ⟨s.nx, putT s.t o.dst (.s (.l (.v (.tuple #[])))), s.h⟩ Q := by simp [aGd, h]
theorem aGd_any {q : Bool} (h : dstOk n o.dst = true) : aGd P ctx ro n f all o l r s Q j want (.s (.l (.v (.bool q)))) = ((q = want → aGd P ctx ro n f all o l r s Q j want (.s (.l (.v (.bool want))))) ∧ (q = !want → aGd P ctx ro n f all o l r s Q j want (.s (.l (.v (.bool (!want))))))) := by
  cases want <;> cases q <;> simp [aGd, h]
theorem aGd_dec_t {p : Prop} [Decidable p] (h : dstOk n o.dst = true) : aGd P ctx ro n f all o l r s Q j want (.s (.l (.v (.bool (decide p))))) = ((p → aGd P ctx ro n f all o l r s Q j want (.s (.l (.v (.bool true))))) ∧ (¬ p → aGd P ctx ro n f all o l r s Q j want (.s (.l (.v (.bool false)))))) := by
  by_cases hp : p <;> simp [hp]
theorem aGd_beq {u v : Int} (h : dstOk n o.dst = true) : aGd P ctx ro n f all o l r s Q j want (.s (.l (.v (.bool (u == v))))) = ((u = v → aGd P ctx ro n f all o l r s Q j want (.s (.l (.v (.bool true))))) ∧ (¬ u = v → aGd P ctx ro n f all o l r s Q j want (.s (.l (.v (.bool false)))))) := by
  by_cases hp : u = v
  · have e : (u == v) = true := by simp [hp]
    rw [e]; simp [hp]
  · have e : (u == v) = false := by simp [hp]
    rw [e]; simp [hp]
theorem aGd_bne {u v : Int} (h : dstOk n o.dst = true) : aGd P ctx ro n f all o l r s Q j want (.s (.l (.v (.bool (u != v))))) = ((u = v → aGd P ctx ro n f all o l r s Q j want (.s (.l (.v (.bool false))))) ∧ (¬ u = v → aGd P ctx ro n f all o l r s Q j want (.s (.l (.v (.bool true)))))) := by
  by_cases hp : u = v
  · have e : (u != v) = false := by simp [hp]
    rw [e]; simp [hp]
  · have e : (u != v) = true := by simp [hp]
    rw [e]; simp [hp]
theorem aGd_not {q : Bool} (h : dstOk n o.dst = true) : aGd P ctx ro n f all o l r s Q j want (.s (.l (.v (.bool (!q))))) = ((q = true → aGd P ctx ro n f all o l r s Q j want (.s (.l (.v (.bool false))))) ∧ (q = false → aGd P ctx ro n f all o l r s Q j want (.s (.l (.v (.bool true)))))) := by
  cases q <;> simp
end
end

/-! ### Weaker states, loops -/
theorem exists_least {p : Nat → Prop} (h : ∃ k, p k) : ∃ k, p k ∧ ∀ j, p j → k ≤ j := by
  obtain ⟨k, hk⟩ := h
  induction k using Nat.strongRecOn with
  | _ k ih =>
    by_cases hq : ∃ j, j < k ∧ p j
    · obtain ⟨j, hj, hp⟩ := hq
      exact ih j hj hp
    · exact ⟨k, hk, fun j hp => Nat.le_of_not_lt fun hlt => hq ⟨j, hlt, hp⟩⟩

/-- s says at least what s' says -/
def Wk (ro : Cf) (s s' : St) : Prop := ∀ n B w0 ρ al a w, B.pl.length = ro.K → RepS n B w0 ρ al s a w → ∃ ρ' al', RepS n B w0 ρ' al' s' a w

theorem Wk.refl (ro : Cf) (s : St) : Wk ro s s := fun _ _ _ ρ al _ _ _ H => ⟨ρ, al, H⟩
theorem Wk.trans {ro : Cf} {s s' s'' : St} (h : Wk ro s s') (k : Wk ro s' s'') : Wk ro s s'' := fun n B w0 ρ al a w hpl H => by
  obtain ⟨ρ', al', H'⟩ := h n B w0 ρ al a w hpl H
  exact k n B w0 ρ' al' a w hpl H'

/-- a round's end: the relation again, with a smaller measure; or the loop is left -/
def roundQ (ro : Cf) {ι : Type} (inv : ι → Prop) (I : ι → St) (m : ι → Nat) (i : ι) (Q : Exit → St → Prop) : Exit → St → Prop
  | .normal, s => ∃ j, inv j ∧ m j < m i ∧ Wk ro s (I j)
  | e, s => Q e s

theorem roundQ_normal {ι : Type} {inv : ι → Prop} {I : ι → St} {m : ι → Nat} {i : ι} : roundQ ro inv I m i Q .normal s = ∃ j, inv j ∧ m j < m i ∧ Wk ro s (I j) := rfl
theorem roundQ_exit {ι : Type} {inv : ι → Prop} {I : ι → St} {m : ι → Nat} {i : ι} {id : Nat} : roundQ ro inv I m i Q (.exit id) s = Q (.exit id) s := rfl
theorem roundQ_ret {ι : Type} {inv : ι → Prop} {I : ι → St} {m : ι → Nat} {i : ι} : roundQ ro inv I m i Q .ret s = Q .ret s := rfl

theorem sw_loop {ι : Type} {c : Code} (inv : ι → Prop) (I : ι → St) (m : ι → Nat) (i0 : ι) (h0 : inv i0) (start : Wk ro s (I i0)) (round : ∀ i, inv i → SW P ro n c (I i) (roundQ ro inv I m i Q)) : SW P ro n (.loop c) s Q := by
  intro B w0 ρ al a w hpl H
  classical
  let J : Act → World → Prop := fun a w => ∃ i ρ al, inv i ∧ RepS n B w0 ρ al (I i) a w
  let μ : Act → World → Nat := fun a w => if hq : ∃ k, ∃ i ρ al, m i = k ∧ inv i ∧ RepS n B w0 ρ al (I i) a w then (exists_least hq).choose else 0
  obtain ⟨ρ0, al0, H0⟩ := start n B w0 ρ al a w hpl H
  refine wpIn_loop J μ ⟨i0, ρ0, al0, h0, H0⟩ ?_
  rintro a1 w1 ⟨i1, ρ1', al1', hi1, H1⟩
  have hq : ∃ k, ∃ i ρ al, m i = k ∧ inv i ∧ RepS n B w0 ρ al (I i) a1 w1 := ⟨_, i1, ρ1', al1', rfl, hi1, H1⟩
  have hμ : μ a1 w1 = (exists_least hq).choose := dif_pos hq
  obtain ⟨i, ρi, ali, hmi, hii, Hi⟩ := (exists_least hq).choose_spec.1
  refine wpIn_mono (round i hii B w0 ρi ali a1 w1 hpl Hi) ?_
  rintro e a2 w2 ⟨ρ2, al2, s2, H2, q⟩
  cases e with
  | normal =>
    obtain ⟨j, hij, hj, hwk⟩ := q
    obtain ⟨ρ3, al3, H3⟩ := hwk n B w0 ρ2 al2 a2 w2 hpl H2
    refine ⟨⟨j, ρ3, al3, hij, H3⟩, ?_⟩
    have hq2 : ∃ k, ∃ i ρ al, m i = k ∧ inv i ∧ RepS n B w0 ρ al (I i) a2 w2 := ⟨_, j, ρ3, al3, rfl, hij, H3⟩
    have h1 : μ a2 w2 = (exists_least hq2).choose := dif_pos hq2
    have h2 : (exists_least hq2).choose ≤ m j := (exists_least hq2).choose_spec.2 _ ⟨j, ρ3, al3, rfl, hij, H3⟩
    rw [h1, hμ, ← hmi]
    omega
  | _ => exact ⟨ρ2, al2, s2, H2, q⟩

end

end Go.Proofs.YtcdbldakjepjiaaDoor
