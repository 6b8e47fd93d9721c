/- The value logic, computed: one operation; what is computed is what the value logic says. No program in sight. -/
import Derived.Test.YtpdjaabjfhjppaaGreatDoorZ0
set_option linter.unusedVariables false
set_option linter.unusedSimpArgs false
namespace Go.Proofs.YtpdjaabjfhjppaaGreatDoor
open Go.RowKit
set_option maxRecDepth 100000

/-- how calls are computed -/
abbrev Cl := FuncId → Nat → Heap → List AV → CO
/-- such a way tells what is known of the functions -/
structure ClOk {P : Program} (ctx : Ctx P) (call : Cl) : Prop where
  val : ∀ g id h args r E, call g id h args = .val r E → ∃ run R, crun ctx g = some run ∧ run id h args = some R ∧ R.ob ∧ R.r = r ∧ R.E = E
  pan : ∀ g id h args v E, call g id h args = .pan v E → ∃ pan ob, cpan ctx g = some pan ∧ pan id h args = some (ob, v, E) ∧ ob

def okC (e : Nat) (c : CQ) : CO := cond c.q (.val c.r c.E) (.no e)
def okQ (e : Nat) (x : Option CQ) : CO := match x with | some c => okC e c | none => .no e
def okR (e : Nat) (x : Option Res) : CO := match x with | some R => .val R.r R.E | none => .no e
def okA (e : Nat) (x : Option AV) : CO := match x with | some r => .val r [] | none => .no e
def okV (e : Nat) (x : Option Value) : CO := match x with | some v => .val (.s (.l (.v v))) [] | none => .no e
def okP (e : Nat) (x : Bool × Value) : CO := cond x.1 (.val (.s (.l (.v x.2))) []) (.no e)
def okB (e : Nat) (x : Option (Bool × Value)) : CO := match x with | some v => okP e v | none => .no e
def okI (e : Nat) (x : Option (Bool × AV)) : CO := match x with | some v => cond v.1 (.val v.2 []) (.no e) | none => .no e
theorem okQ_val {e : Nat} {x : Option CQ} {r : AV} {E : Heap} (h : okQ e x = .val r E) : x = some ⟨true, r, E⟩ := by
  unfold okQ at h
  split at h
  · rename_i c
    obtain ⟨q, r', E'⟩ := c
    unfold okC at h
    cases q
    · cases h
    · injection h with h1 h2
      subst h1 h2
      rfl
  · cases h
theorem okR_val {e : Nat} {x : Option Res} {r : AV} {E : Heap} (h : okR e x = .val r E) : ∃ R, x = some R ∧ R.r = r ∧ R.E = E := by
  unfold okR at h
  split at h
  · injection h with h1 h2
    exact ⟨_, rfl, h1, h2⟩
  · cases h
theorem okA_val {e : Nat} {x : Option AV} {r : AV} {E : Heap} (h : okA e x = .val r E) : x = some r ∧ E = [] := by
  unfold okA at h
  split at h
  · injection h with h1 h2
    subst h1 h2
    exact ⟨rfl, rfl⟩
  · cases h
theorem okV_val {e : Nat} {x : Option Value} {r : AV} {E : Heap} (h : okV e x = .val r E) : ∃ v, x = some v ∧ r = .s (.l (.v v)) ∧ E = [] := by
  unfold okV at h
  split at h
  · injection h with h1 h2
    exact ⟨_, rfl, h1.symm, h2.symm⟩
  · cases h
theorem okB_val {e : Nat} {x : Option (Bool × Value)} {r : AV} {E : Heap} (h : okB e x = .val r E) : ∃ v, x = some (true, v) ∧ r = .s (.l (.v v)) ∧ E = [] := by
  unfold okB at h
  split at h
  · rename_i v
    obtain ⟨q, v⟩ := v
    unfold okP at h
    cases q
    · cases h
    · injection h with h1 h2
      exact ⟨_, rfl, h1.symm, h2.symm⟩
  · cases h
theorem okI_val {e : Nat} {x : Option (Bool × AV)} {r : AV} {E : Heap} (h : okI e x = .val r E) : x = some (true, r) ∧ E = [] := by
  unfold okI at h
  split at h
  · rename_i v
    obtain ⟨q, v⟩ := v
    cases q
    · cases h
    · injection h with h1 h2
      subst h1 h2
      exact ⟨rfl, rfl⟩
  · cases h
theorem okQ_pan {e : Nat} {x : Option CQ} {v : Value} {E : Heap} (h : okQ e x = .pan v E) : False := by
  unfold okQ okC at h
  split at h
  · rename_i c
    cases hq : c.q <;> rw [hq] at h <;> cases h
  · cases h
theorem okR_pan {e : Nat} {x : Option Res} {v : Value} {E : Heap} (h : okR e x = .pan v E) : False := by
  unfold okR at h
  split at h <;> cases h
theorem okA_pan {e : Nat} {x : Option AV} {v : Value} {E : Heap} (h : okA e x = .pan v E) : False := by
  unfold okA at h
  split at h <;> cases h
theorem okV_pan {e : Nat} {x : Option Value} {v : Value} {E : Heap} (h : okV e x = .pan v E) : False := by
  unfold okV at h
  split at h <;> cases h
theorem okB_pan {e : Nat} {x : Option (Bool × Value)} {v : Value} {E : Heap} (h : okB e x = .pan v E) : False := by
  unfold okB okP at h
  split at h
  · rename_i c
    cases hq : c.1 <;> rw [hq] at h <;> cases h
  · cases h
theorem okI_pan {e : Nat} {x : Option (Bool × AV)} {v : Value} {E : Heap} (h : okI e x = .pan v E) : False := by
  unfold okI at h
  split at h
  · rename_i c
    cases hq : c.1 <;> rw [hq] at h <;> cases h
  · cases h

/-! ### Tests of interfaces against nil -/
theorem run_ifaceN {P : Program} {t : TypeId} {u v : Value} {x y : Operand} {b : Bool} {w : World} (h1 : binOp .neq t u v = (do pure (.bool (!(← Op.equal t u v))))) (h3 : (eqGuard .neq t x y u v).run P w = .ok () w) (h4 : ∀ d, (Op.equalIn (d + 1) t u v).run P w = .ok b w) : (do eqGuard .neq t x y u v; binOp .neq t u v : Sem Value).run P w = .ok (.bool !b) w := by
  have h5 : (Op.equal t u v).run P w = .ok b w := by
    unfold Op.equal
    rw [show Op.maxDepth = 9999 + 1 from rfl]
    exact h4 9999
  rw [Sem.run_bind, h3, Result.andThen_ok, h1, Sem.run_bind, h5]
  rfl
def isConst (x : Operand) : Bool := match x with | .const _ => true | _ => false
def cBinN (P : Program) (op : BinOp) (t : TypeId) (yo : Operand) (same : Bool) : Option Value := cond (Nat.beq (kT P t) 4 && isConst yo) (match op with
  | .eql => some (.bool same)
  | .neq => some (.bool !same)
  | _ => none) none
theorem cBinN_nil {P : Program} {op : BinOp} {t : TypeId} {xo yo : Operand} {v : Value} (h : cBinN P op t yo true = some v) : ∃ ob, aBin P op t xo yo .nilIface .nilIface = some (ob, v) ∧ ob := by
  unfold cBinN at h
  cases hc : (Nat.beq (kT P t) 4 && isConst yo)
  · rw [hc] at h; cases h
  · rw [hc] at h
    simp only [Bool.and_eq_true] at hc
    obtain ⟨hk, hy⟩ := hc
    have hk := Nat.eq_of_beq_eq_true hk
    cases yo with
    | const c =>
      simp only [cond_true] at h
      obtain ⟨ms, hu⟩ := kT_iface hk
      refine ⟨True, ?_, trivial⟩
      unfold aBin
      split at h
      · injection h with h; subst h
        simp only [pure_nil_nil (x := xo) (c := c) hk]
      · injection h with h; subst h
        have : pureV P (do eqGuard .neq t xo (.const c) .nilIface .nilIface; binOp .neq t .nilIface .nilIface) = some (.bool false) := pureV_eq fun w => run_ifaceN (b := true) rfl (by cases xo <;> rfl) (fun d => by simp only [Op.equalIn, Sem.run_bind, run_underlying hu, Result.andThen_ok]; rfl)
        simp only [this]
        rfl
      · cases h
    | _ => cases hy
theorem cBinN_iface {P : Program} {op : BinOp} {t u : TypeId} {z : Value} {xo yo : Operand} {v : Value} (h : cBinN P op t yo false = some v) : ∃ ob, aBin P op t xo yo (.iface u z) .nilIface = some (ob, v) ∧ ob := by
  unfold cBinN at h
  cases hc : (Nat.beq (kT P t) 4 && isConst yo)
  · rw [hc] at h; cases h
  · rw [hc] at h
    simp only [Bool.and_eq_true] at hc
    obtain ⟨hk, hy⟩ := hc
    have hk := Nat.eq_of_beq_eq_true hk
    cases yo with
    | const c =>
      simp only [cond_true] at h
      obtain ⟨ms, hu⟩ := kT_iface hk
      refine ⟨True, ?_, trivial⟩
      unfold aBin
      split at h
      · injection h with h; subst h
        simp only [pure_iface_nil (x := xo) (c := c) hk]
      · injection h with h; subst h
        have : pureV P (do eqGuard .neq t xo (.const c) (.iface u z) .nilIface; binOp .neq t (.iface u z) .nilIface) = some (.bool true) := pureV_eq fun w => run_ifaceN (b := false) rfl rfl (fun d => by simp only [Op.equalIn, Sem.run_bind, run_underlying hu, Result.andThen_ok]; rfl)
        simp only [this]
        rfl
      · cases h
    | _ => cases hy

/-! ### Operators on values -/
def binI (op : BinOp) (k : IntKind) (a : Int) (y : Value) : CO := match y with
  | .int k' b => cond (decide (k = k') || shiftB op) (okB 2 (cBinI op k a b)) (.no 2)
  | _ => .no 2
def binS (op : BinOp) (a : ByteArray) (y : Value) : CO := match y with
  | .string b => okB 3 (cBinS op a b)
  | _ => .no 3
def binB (P : Program) (op : BinOp) (t : TypeId) (a : Bool) (y : Value) : CO := match y with
  | .bool b => okV 4 (cBinB P op t a b)
  | _ => .no 4
def binA (P : Program) (op : BinOp) (t : TypeId) (a : Array Value) (y : Value) : CO := match y with
  | .agg b => okV 5 (cBinA P op t a.toList b.toList)
  | _ => .no 5
def binN (P : Program) (op : BinOp) (t : TypeId) (yo : Operand) (same : Bool) (y : Value) : CO := match y with
  | .nilIface => okV 6 (cBinN P op t yo same)
  | _ => .no 6
def binV (P : Program) (op : BinOp) (t : TypeId) (yo : Operand) (x y : Value) : CO := match x with
  | .int k a => binI op k a y
  | .string a => binS op a y
  | .bool a => binB P op t a y
  | .agg a => binA P op t a y
  | .nilIface => binN P op t yo true y
  | .iface _ _ => binN P op t yo false y
  | _ => .no 7
theorem binV_val {P : Program} {op : BinOp} {t : TypeId} {xo yo : Operand} {x y : Value} {r : AV} {E : Heap} (h : binV P op t yo x y = .val r E) : ∃ ob v, aBin P op t xo yo x y = some (ob, v) ∧ ob ∧ r = .s (.l (.v v)) ∧ E = [] := by
  have fin : ∀ {v : Value}, (∃ ob, aBin P op t xo yo x y = some (ob, v) ∧ ob) → r = .s (.l (.v v)) ∧ E = [] → ∃ ob v, aBin P op t xo yo x y = some (ob, v) ∧ ob ∧ r = .s (.l (.v v)) ∧ E = [] := fun ⟨ob, h1, h2⟩ ⟨h3, h4⟩ => ⟨ob, _, h1, h2, h3, h4⟩
  unfold binV at h
  split at h
  · unfold binI at h
    split at h
    case h_2 => cases h
    rename_i k' b
    cases hc : (decide (_ = k') || shiftB op)
    · rw [hc] at h; cases h
    · rw [hc] at h
      obtain ⟨v, h1, h2, h3⟩ := okB_val h
      simp only [Bool.or_eq_true, decide_eq_true_eq] at hc
      exact fin (cBinI_ok hc h1) ⟨h2, h3⟩
  · unfold binS at h
    split at h
    case h_2 => cases h
    obtain ⟨v, h1, h2, h3⟩ := okB_val h
    exact fin (cBinS_ok h1) ⟨h2, h3⟩
  · unfold binB at h
    split at h
    case h_2 => cases h
    obtain ⟨v, h1, h2, h3⟩ := okV_val h
    exact fin (cBinB_ok h1) ⟨h2, h3⟩
  · unfold binA at h
    split at h
    case h_2 => cases h
    obtain ⟨v, h1, h2, h3⟩ := okV_val h
    exact fin (cBinA_ok h1) ⟨h2, h3⟩
  · unfold binN at h
    split at h
    case h_2 => cases h
    obtain ⟨v, h1, h2, h3⟩ := okV_val h
    exact fin (cBinN_nil h1) ⟨h2, h3⟩
  · unfold binN at h
    split at h
    case h_2 => cases h
    obtain ⟨v, h1, h2, h3⟩ := okV_val h
    exact fin (cBinN_iface h1) ⟨h2, h3⟩
  · cases h
theorem binV_pan {P : Program} {op : BinOp} {t : TypeId} {yo : Operand} {x y v : Value} {E : Heap} (h : binV P op t yo x y = .pan v E) : False := by
  unfold binV at h
  split at h
  · unfold binI at h
    split at h
    case h_2 => cases h
    rename_i k' b
    cases hc : (decide (_ = k') || shiftB op)
    · rw [hc] at h; cases h
    · rw [hc] at h; exact okB_pan h
  · unfold binS at h
    split at h
    case h_2 => cases h
    exact okB_pan h
  · unfold binB at h
    split at h
    case h_2 => cases h
    exact okV_pan h
  · unfold binA at h
    split at h
    case h_2 => cases h
    exact okV_pan h
  · unfold binN at h
    split at h
    case h_2 => cases h
    exact okV_pan h
  · unfold binN at h
    split at h
    case h_2 => cases h
    exact okV_pan h
  · cases h

/-! ### One operation -/
/-- the condition of a test against nil -/
def nilOk (x : AV) : Bool := match x with
  | .s (.l (.sl _ _ n)) => decide (0 < n)
  | .s (.l (.d (.sd _ els))) => !els.isEmpty
  | _ => true
def opNil (P : Program) (op : BinOp) (t : TypeId) (x y : AV) : CO := match aNil P t x y with
  | some q => cond (nilOk x) (okV 8 ((aNilOp op q.2).map .bool)) (.no 8)
  | none => .no 9
def opBin2 (P : Program) (op : BinOp) (t : TypeId) (yo : Operand) (x y : AV) (a : Value) : CO := match flatOf y with
  | some b => binV P op t yo a b
  | none => opNil P op t x y
def opBin (P : Program) (op : BinOp) (t : TypeId) (yo : Operand) (x y : AV) : CO := match flatOf x with
  | some a => opBin2 P op t yo x y a
  | none => opNil P op t x y
def opPick (c a b : AV) : CO := match c with
  | .s (.l (.v (.bool q))) => .val (cond q a b) []
  | _ => .no 10
def opAlloc (P : Program) (t : TypeId) (id : Nat) : CO := match zeroOf P t with
  | some zs => okR 11 (some (aNew t id (zs.map .v)))
  | none => .no 11
def opBox (t : TypeId) (id : Nat) (x : AV) : CO := match cellsOf x with
  | some xs => okR 12 (some (aNew t id xs))
  | none => .no 12
def opIdxA (P : Program) (t : TypeId) (x ix : AV) (h : Heap) : CO := cond (fitsAt P t x h) (okQ 13 (cIndexAt P t x ix)) (.no 13)
def opMk2 (g : FuncId) (fs : List LV) (c : List AV) : CO := match caught c with
  | some cs => .val (.fn g fs cs) []
  | none => .no 14
def opMk (g : Fn) (f c : List AV) : CO := match g with
  | .func g => match caught f with
    | some fs => opMk2 g fs c
    | none => .no 14
  | _ => .no 14
def opIfc1 (t : TypeId) (x : Option LV) : CO := match x with
  | some (.d d) => .val (.s (.l (.d (.ifc t d)))) []
  | _ => .no 15
def opIfc (P : Program) (t : TypeId) (x : AV) : CO := cond (isConc P t) (match flatOf x with
  | some v => .val (.s (.l (.v (.iface t v)))) []
  | none => opIfc1 t (oneOf x)) (.no 15)
def opUn (op : UnOp) (x : AV) : CO := match flatOf x with
  | some a => okV 16 (aUn op a)
  | none => .no 16
def opConv2 (P : Program) (s d : TypeId) (x : AV) (h : Heap) (id : Nat) (c : Option Value) : CO := match c with
  | some v => .val (.s (.l (.v v))) []
  | none => okQ 17 (cConvS P s d x h id)
def opConv (P : Program) (s d : TypeId) (x : AV) (h : Heap) (id : Nat) : CO := match flatOf x with
  | some a => opConv2 P s d x h id (aConv P s d a)
  | none => okQ 17 (cConvS P s d x h id)
def opNilC (x : AV) : CO := match x with
  | .s (.l (.p b i j)) => .val (.s (.l (.p b i j))) []
  | _ => .no 18
def opExt (x : AV) (n : Nat) : CO := match x with
  | .tup xs => okA 19 (xs[n]?.map .s)
  | _ => .no 19
def opMin (b : Builtin) (x y : AV) : CO := match flatOf x with
  | some a => match flatOf y with
    | some c => okV 20 (aMin b a c)
    | none => .no 20
  | none => .no 20
def opB1 (P : Program) (b : Builtin) (t : TypeId) (x : AV) : CO := match b with
  | .len => okV 21 (aLen P t x)
  | _ => .no 21
def opB2 (P : Program) (b : Builtin) (t1 t2 : TypeId) (x y : AV) (h : Heap) (id : Nat) : CO := match b with
  | .append => okQ 22 (cAppend P t1 t2 x y h id)
  | .min => opMin .min x y
  | .max => opMin .max x y
  | _ => .no 22
def opT1 (P : Program) (b : Builtin) (x : AV) (ts : List TypeId) : CO := match ts with
  | [t] => opB1 P b t x
  | _ => .no 23
def opT2 (P : Program) (b : Builtin) (x y : AV) (ts : List TypeId) (h : Heap) (id : Nat) : CO := match ts with
  | [t1, t2] => opB2 P b t1 t2 x y h id
  | _ => .no 23
def opBi (P : Program) (b : Builtin) (args : List Operand) (ts : List TypeId) (ev : Operand → AV) (h : Heap) (id : Nat) : CO := match args with
  | [x] => opT1 P b (ev x) ts
  | [x, y] => opT2 P b (ev x) (ev y) ts h id
  | _ => .no 23
def opVal (call : Cl) (f : AV) (args : List AV) (h : Heap) (id : Nat) : CO := match calleeOf f with
  | some x => call x.1 id h (x.2.1 ++ args ++ x.2.2)
  | none => .no 24
def opCall (P : Program) (call : Cl) (c : Call) (ev : Operand → AV) (h : Heap) (id : Nat) : CO := match c.callee with
  | .builtin b => opBi P b c.args.toList c.argTypes.toList ev h id
  | .value f => opVal call (ev f) (c.args.toList.map ev) h id
  | _ => .no 25
def opPan (x : AV) : CO := match x with
  | .s (.l (.v (.iface t v))) => .pan (.iface t v) []
  | _ => .no 26
def cOp (P : Program) (call : Cl) (id : Nat) (o : Op) (ev : Operand → AV) (h : Heap) : CO := match o with
  | .move x => .val (ev x) []
  | .assign x => .val (ev x) []
  | .pick c a b => opPick (ev c) (ev a) (ev b)
  | .load t x => okR 30 (aLoad P t (ev x) h)
  | .store t x y => okR 31 (aStore P t (ev x) (ev y) h)
  | .alloc t => opAlloc P t id
  | .box t x => opBox t id (ev x)
  | .build t ps => okR 32 (aBuild P t (ps.toList.map fun (i, x) => (i, ev x)))
  | .buildSlice t n ps => okR 33 (aBuildSlice P t n (ps.toList.map fun (i, x) => (i, ev x)) id)
  | .makeSlice t x y => okQ 34 (cMake P t (ev x) (ev y) id)
  | .fieldAddr t x f => okR 35 (aField P t (ev x) f)
  | .indexAddr t x ix => opIdxA P t (ev x) (ev ix) h
  | .index t x ix => okI 36 (cIndex P t (ev x) (ev ix))
  | .slice t x lo hi mx => okQ 37 (cSlice P t (ev x) (lo.map ev) (hi.map ev) (mx.map ev) h)
  | .binOp op t x y _ => opBin P op t y (ev x) (ev y)
  | .makeFunc g f c => opMk g (f.toList.map ev) (c.toList.map ev)
  | .makeInterface t x => opIfc P t (ev x)
  | .unOp op _ x => opUn op (ev x)
  | .convert s d x => opConv P s d (ev x) h id
  | .nilCheck x => opNilC (ev x)
  | .extract x n => opExt (ev x) n
  | .field t x f => okA 38 (aFld P t (ev x) f)
  | .typeAssert x _ t ok => okA 39 (aAssert P t ok (ev x))
  | .call c => opCall P call c ev h id
  | .panic x => opPan (ev x)
  | _ => .no 40
end Go.Proofs.YtpdjaabjfhjppaaGreatDoor
