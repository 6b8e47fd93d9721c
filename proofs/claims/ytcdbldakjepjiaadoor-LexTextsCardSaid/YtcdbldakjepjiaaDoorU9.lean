/- The value logic with lasting memory, part 9: regions that draw their order. No program in sight. -/
import Derived.Test.YtcdbldakjepjiaaDoorU8
import Derived.Orders
import Derived.OrdersIn
set_option linter.unusedVariables false
set_option linter.unusedSimpArgs false
namespace Go.Proofs.YtcdbldakjepjiaaDoor
open Go.RowKit

/-- an operation's outcome: where it goes, what it is, what it changes -/
structure Ent where
  dst : Option Tmp
  r : AV
  E : Heap

def bit (m k : Nat) : Bool := (m / 2 ^ k) % 2 == 1

def bindsE (e : Edge) : Bool := Region.binds .any e

def befOf (acc : List Nat) : List Edge → Nat
  | [] => 0
  | e :: r => if bindsE e then befOf acc r ||| 2 ^ e.on ||| acc.getD e.on 0 else befOf acc r

def befs : List Nat → List Oper → List Nat
  | acc, [] => acc
  | acc, o :: l => befs (acc ++ [befOf acc o.after.toList]) l

/-- the slots, with the outcomes that p picks -/
def Tm (p : Nat → Bool) : List Ent → Nat → Tmps → Tmps
  | [], _, t => t
  | e :: r, k, t => Tm p r (k + 1) (if p k then putT t e.dst e.r else t)

def Hp (p : Nat → Bool) : List Ent → Nat → Heap → Heap
  | [], _, h => h
  | e :: r, k, h => Hp p r (k + 1) (if p k then e.E ++ h else h)

def inE (E : Heap) (b : Nat) : Bool := E.any fun x => x.1 == b

section
variable {p p' : Nat → Bool}

theorem Tm_congr {d : Nat} : ∀ {rs : List Ent} {k : Nat} {t t' : Tmps}, tget t d = tget t' d → (∀ (j : Nat) (e : Ent), rs[j]? = some e → e.dst = some d → p (k + j) = p' (k + j)) → tget (Tm p rs k t) d = tget (Tm p' rs k t') d
  | [], _, _, _, h, _ => h
  | e :: r, k, t, t', h, hp => by
    rw [Tm, Tm]
    refine Tm_congr ?_ fun j x hx hd => by have := hp (j + 1) x (by simpa using hx) hd; rwa [show k + (j + 1) = k + 1 + j by omega] at this
    by_cases hd : e.dst = some d
    · have := hp 0 e rfl hd
      rw [Nat.add_zero] at this
      rw [this]
      split
      · rw [hd, putT, putT, tget, tget, if_pos rfl, if_pos rfl]
      · exact h
    · have hn : ∀ t, tget (putT t e.dst e.r) d = tget t d := by
        intro t
        cases hq : e.dst with
        | none => rfl
        | some q => rw [putT, tget, if_neg (fun hh => hd (by rw [hq, hh]))]
      split <;> split <;> simp only [hn, h]

theorem Tm_none {d : Nat} : ∀ {rs : List Ent} {k : Nat} {t : Tmps}, (∀ (j : Nat) (e : Ent), rs[j]? = some e → e.dst = some d → p (k + j) = false) → tget (Tm p rs k t) d = tget t d
  | [], _, _, _ => rfl
  | e :: r, k, t, hp => by
    rw [Tm, Tm_none fun j x hx hd => by have := hp (j + 1) x (by simpa using hx) hd; rwa [show k + (j + 1) = k + 1 + j by omega] at this]
    split
    · rename_i hpk
      cases hq : e.dst with
      | none => rfl
      | some q =>
        rw [putT, tget, if_neg]
        rintro rfl
        have := hp 0 e rfl hq
        rw [Nat.add_zero, hpk] at this
        cases this
    · rfl

theorem Tm_last {d : Nat} {x : Ent} (hx : x.dst = some d) : ∀ {rs : List Ent} {k j : Nat} {t : Tmps}, rs[j]? = some x → p (k + j) = true → (∀ (m : Nat) (e : Ent), j < m → rs[m]? = some e → e.dst = some d → p (k + m) = false) → tget (Tm p rs k t) d = x.r
  | [], _, _, _, h, _, _ => by simp at h
  | e :: r, k, 0, t, h, hp, hl => by
    simp at h
    subst h
    rw [Nat.add_zero] at hp
    rw [Tm, if_pos hp, Tm_none fun j y hy hd => by have := hl (j + 1) y (by omega) (by simpa using hy) hd; rwa [show k + (j + 1) = k + 1 + j by omega] at this]
    rw [hx, putT, tget, if_pos rfl]
  | e :: r, k, j + 1, t, h, hp, hl => by
    rw [Tm]
    exact Tm_last hx (j := j) (by simpa using h) (by rwa [show k + 1 + j = k + (j + 1) by omega]) fun m y hm hy hd => by have := hl (m + 1) y (by omega) (by simpa using hy) hd; rwa [show k + (m + 1) = k + 1 + m by omega] at this

theorem hget_app {E h : Heap} {b : Nat} : hget (E ++ h) b = if inE E b then hget E b else hget h b := by
  induction E with
  | nil => rfl
  | cons x r ih =>
    obtain ⟨k, v⟩ := x
    simp only [List.cons_append, hget, inE, List.any_cons]
    by_cases e : k = b
    · simp [e]
    · have : (k == b) = false := by simpa using e
      simp only [if_neg e, this, Bool.false_or]
      exact ih

theorem Hp_congr {b : Nat} : ∀ {rs : List Ent} {k : Nat} {h h' : Heap}, hget h b = hget h' b → (∀ (j : Nat) (e : Ent), rs[j]? = some e → inE e.E b = true → p (k + j) = p' (k + j)) → hget (Hp p rs k h) b = hget (Hp p' rs k h') b
  | [], _, _, _, h, _ => h
  | e :: r, k, h, h', hh, hp => by
    rw [Hp, Hp]
    refine Hp_congr ?_ fun j x hx hd => by have := hp (j + 1) x (by simpa using hx) hd; rwa [show k + (j + 1) = k + 1 + j by omega] at this
    by_cases hd : inE e.E b = true
    · have := hp 0 e rfl hd
      rw [Nat.add_zero] at this
      rw [this]
      split
      · rw [hget_app, hget_app, if_pos hd, if_pos hd]
      · exact hh
    · have hn : ∀ h, hget (e.E ++ h) b = hget h b := fun h => by rw [hget_app, if_neg hd]
      split <;> split <;> simp only [hn, hh]

theorem Hp_none {b : Nat} : ∀ {rs : List Ent} {k : Nat} {h : Heap}, (∀ (j : Nat) (e : Ent), rs[j]? = some e → inE e.E b = true → p (k + j) = false) → hget (Hp p rs k h) b = hget h b
  | [], _, _, _ => rfl
  | e :: r, k, h, hp => by
    rw [Hp, Hp_none fun j x hx hd => by have := hp (j + 1) x (by simpa using hx) hd; rwa [show k + (j + 1) = k + 1 + j by omega] at this]
    split
    · rename_i hpk
      rw [hget_app, if_neg]
      intro hd
      have := hp 0 e rfl hd
      rw [Nat.add_zero, hpk] at this
      cases this
    · rfl

theorem Hp_last {b : Nat} {x : Ent} (hx : inE x.E b = true) : ∀ {rs : List Ent} {k j : Nat} {h : Heap}, rs[j]? = some x → p (k + j) = true → (∀ (m : Nat) (e : Ent), j < m → rs[m]? = some e → inE e.E b = true → p (k + m) = false) → hget (Hp p rs k h) b = hget x.E b
  | [], _, _, _, h, _, _ => by simp at h
  | e :: r, k, 0, t, h, hp, hl => by
    simp at h
    subst h
    rw [Nat.add_zero] at hp
    rw [Hp, if_pos hp, Hp_none fun j y hy hd => by have := hl (j + 1) y (by omega) (by simpa using hy) hd; rwa [show k + (j + 1) = k + 1 + j by omega] at this]
    rw [hget_app, if_pos hx]
  | e :: r, k, j + 1, t, h, hp, hl => by
    rw [Hp]
    exact Hp_last hx (j := j) (by simpa using h) (by rwa [show k + 1 + j = k + (j + 1) by omega]) fun m y hm hy hd => by have := hl (m + 1) y (by omega) (by simpa using hy) hd; rwa [show k + (m + 1) = k + 1 + m by omega] at this
end

/-- operations that look at blocks or make them -/
def heapy : Op → Bool
  | .move _ | .assign _ | .pick .. | .build .. | .fieldAddr .. | .index .. | .binOp .. | .unOp .. | .nilCheck _ | .extract .. | .field .. | .makeFunc .. | .makeInterface .. => false
  | .call c => match c.callee with
    | .builtin .len => false
    | .builtin .min => false
    | .builtin .max => false
    | _ => true
  | _ => true

def looks (o : Oper) (ops : List Oper) : List Nat :=
  (o.op.operands.toList.filterMap fun | .tmp t => some t | _ => none) ++
  (match o.guard with
   | some (g, _) => match ops[g]? with
     | some x => x.dst.toList
     | none => []
   | none => [])

/-- two operations hang together by a slot -/
def tied (ops : List Oper) (x y : Oper) : Bool :=
  (match x.dst with
   | some d => (looks y ops).contains d || y.dst == some d
   | none => false) ||
  (match y.dst with
   | some d => (looks x ops).contains d
   | none => false)

/-- which operations change blocks: such as all others wait for; such as change those blocks alone; which blocks an operation does not look at -/
structure Ms where
  ms : List Nat
  fs : List (Nat × List Nat)
  hs : List (Nat × List Nat)

def declOf : List (Nat × List Nat) → Nat → List Nat
  | [], _ => []
  | (j, bl) :: r, i => if j = i then bl ++ declOf r i else declOf r i
theorem declOf_mem {b i : Nat} : ∀ {l : List (Nat × List Nat)}, b ∈ declOf l i → ∃ m ∈ l, m.1 = i ∧ b ∈ m.2
  | [], h => by simp [declOf] at h
  | (j, bl) :: r, h => by
    rw [declOf] at h
    split at h
    · rename_i e
      rcases List.mem_append.1 h with h | h
      · exact ⟨(j, bl), by simp, e, h⟩
      · obtain ⟨m, h1, h2⟩ := declOf_mem h
        exact ⟨m, by simp [h1], h2⟩
    · obtain ⟨m, h1, h2⟩ := declOf_mem h
      exact ⟨m, by simp [h1], h2⟩

/-- some blocks not looked at -/
def veil (bs : List Nat) (h : Heap) : Heap := (bs.map fun b => (b, none)) ++ h
theorem veil_nil {h : Heap} : veil [] h = h := rfl
theorem hget_veil {h : Heap} : ∀ {U : List Nat} {b : Nat} {k : Blk}, hget (veil U h) b = some k → b ∉ U ∧ hget h b = some k
  | [], b, k, hk => ⟨by simp, hk⟩
  | c :: U, b, k, hk => by
    simp only [veil, List.map_cons, List.cons_append, hget] at hk
    split at hk
    · cases hk
    · rename_i hne
      obtain ⟨h1, h2⟩ := hget_veil (U := U) hk
      exact ⟨by simp only [List.mem_cons, not_or]; exact ⟨fun e => hne e.symm, h1⟩, h2⟩

def drawOk (ops : List Oper) (ms : Ms) : Bool :=
  let bs := befs [] ops
  let n := ops.length
  (List.range n).all (fun i =>
    match ops[i]? with
    | some o =>
      ms.fs.all (fun m => decide (m.1 = i) || bit (bs.getD i 0) m.1 || bit (bs.getD m.1 0) i || m.2.all (fun b => (declOf ms.hs i).contains b)) &&
      o.after.toList.all (fun e => !bindsE e || decide (e.on < i)) &&
      (List.range n).all (fun k => !bit (bs.getD i 0) k || (decide (k < i) && o.after.toList.any (fun e => bindsE e && (e.on == k || bit (bs.getD e.on 0) k)))) &&
      (List.range n).all (fun k => decide (k = i) || bit (bs.getD i 0) k || bit (bs.getD k 0) i || match ops[k]? with
        | some o' => !tied ops o o' && !(ms.ms.contains k && heapy o.op)
        | none => true) &&
      (match o.guard with
       | some (g, _) => bit (bs.getD i 0) g && decide (g < n)
       | none => true)
    | none => false)

section
variable {P : Program} {ctx : Ctx P} {id : Nat} {o : Op} {ev ev' : Operand → AV} {h h' : Heap} {R : Res}

theorem aLoad_mono (hs : ∀ b k, hget h b = some k → hget h' b = some k) {t : TypeId} {x : AV} (hr : aLoad P t x h = some R) : aLoad P t x h' = some R := by
  unfold aLoad at hr ⊢
  split at hr
  case h_2 => exact hr
  case h_3 => cases hr
  split at hr
  case h_2 => cases hr
  rename_i k hk
  simp only [hs _ _ hk]
  exact hr

theorem aStore_mono (hs : ∀ b k, hget h b = some k → hget h' b = some k) {t : TypeId} {x y : AV} (hr : aStore P t x y h = some R) : aStore P t x y h' = some R := by
  unfold aStore at hr ⊢
  split at hr
  case h_2 => cases hr
  split at hr
  case h_2 => cases hr
  rename_i k hk
  simp only [hs _ _ hk]
  exact hr

theorem fitsAt_mono (hs : ∀ b k, hget h b = some k → hget h' b = some k) {t : TypeId} {x : AV} (hr : fitsAt P t x h = true) : fitsAt P t x h' = true := by
  unfold fitsAt at hr ⊢
  split at hr
  · split at hr
    case h_2 => cases hr
    rename_i k e hk he
    simp only [hs _ _ hk, he]
    exact hr
  · rfl

theorem aSlice_mono (hs : ∀ b k, hget h b = some k → hget h' b = some k) {t : TypeId} {x : AV} {lo hi mx : Option AV} (hr : aSlice P t x lo hi mx h = some R) : aSlice P t x lo hi mx h' = some R := by
  unfold aSlice at hr ⊢
  split at hr
  · cases hr
  split at hr
  · split at hr
    case h_2 => cases hr
    rename_i l m k e h1 h2 hk he
    simp only [h1, h2, hs _ _ hk, he]
    exact hr
  · exact hr
  · exact hr
  · exact hr
  · cases hr

theorem srcOf_mono (hs : ∀ b k, hget h b = some k → hget h' b = some k) {t2 : TypeId} {y : AV} {sz : Nat} {X : Prop × Nat × List (List LV)} (hr : srcOf P t2 y h sz = some X) : srcOf P t2 y h' sz = some X := by
  unfold srcOf at hr ⊢
  split at hr
  · split at hr
    case h_2 => cases hr
    rename_i l hl
    simp only [hs _ _ hl]
    exact hr
  · exact hr
  · exact hr
  · exact hr
  · cases hr

theorem aAppend_mono (hs : ∀ b k, hget h b = some k → hget h' b = some k) {t1 t2 : TypeId} {x y : AV} (hr : aAppend P t1 t2 x y h id = some R) : aAppend P t1 t2 x y h' id = some R := by
  unfold aAppend at hr ⊢
  split at hr
  case h_2 => cases hr
  rename_i T hT
  try simp only [hT]
  split at hr
  case h_2 => cases hr
  rename_i z1 z2 z3 e1 e2 e3
  split at hr
  case h_2 => cases hr
  rename_i ob m rows hsrc
  simp only [srcOf_mono hs hsrc]
  split at hr
  · split at hr
    case h_2 => cases hr
    rename_i k hk
    simp only [hs _ _ hk]
    exact hr
  · exact hr
  · cases hr

theorem aConvS_mono (hs : ∀ b k, hget h b = some k → hget h' b = some k) {src dst : TypeId} {x : AV} (hr : aConvS P src dst x h id = some R) : aConvS P src dst x h' id = some R := by
  unfold aConvS at hr ⊢
  split at hr
  · split at hr
    case isFalse => cases hr
    rename_i hc
    rw [if_pos hc]
    split at hr
    case h_2 => cases hr
    rename_i k hk
    simp only [hs _ _ hk]
    exact hr
  · exact hr
  · exact hr
  · exact hr
  · cases hr

theorem aOp_mono (hs : ∀ b k, hget h b = some k → hget h' b = some k) (hr : aOp P ctx id o ev h = some R) : aOp P ctx id o ev h' = some R := by
  cases o with
  | load t x => simp only [aOp] at hr ⊢; exact aLoad_mono hs hr
  | store t x y => simp only [aOp] at hr ⊢; exact aStore_mono hs hr
  | indexAddr t x ix =>
    simp only [aOp] at hr ⊢
    split at hr
    case isFalse => cases hr
    rename_i hf
    rw [if_pos (fitsAt_mono hs hf)]
    exact hr
  | slice t x lo hi mx => simp only [aOp] at hr ⊢; exact aSlice_mono hs hr
  | convert s d x =>
    simp only [aOp] at hr ⊢
    split at hr
    · split at hr
      · exact hr
      · exact aConvS_mono hs hr
    · exact aConvS_mono hs hr
  | call c =>
    obtain ⟨callee, args, argTypes⟩ := c
    cases callee with
    | builtin b =>
      simp only [aOp] at hr ⊢
      split at hr
      · exact hr
      · split at hr
        · exact aAppend_mono hs hr
        · exact hr
        · exact hr
        · cases hr
      · cases hr
    | value f =>
      simp only [aOp] at hr ⊢
      split at hr
      case h_2 => cases hr
      split at hr
      case h_2 => cases hr
      rename_i run hrun
      obtain ⟨s, rfl⟩ := crun_some hrun
      exact s.mono hs hr
    | invoke _ _ => simp only [aOp] at hr; cases hr
  | makeFunc fn f c => cases fn <;> first | exact hr | (simp only [aOp] at hr; cases hr)
  | _ => first | exact hr | (simp only [aOp] at hr; cases hr)

theorem aOp_still (hh : heapy o = false) {id' : Nat} (hr : aOp P ctx id o ev h = some R) : aOp P ctx id' o ev h' = some R ∧ R.E = [] := by
  cases o with
  | move x => simp only [aOp, Option.some.injEq] at hr ⊢; exact ⟨hr, by rw [← hr]⟩
  | assign x => simp only [aOp, Option.some.injEq] at hr ⊢; exact ⟨hr, by rw [← hr]⟩
  | pick c a b =>
    simp only [aOp] at hr ⊢
    refine ⟨hr, ?_⟩
    split at hr
    · injection hr with hr; rw [← hr]
    · injection hr with hr; rw [← hr]
    · cases hr
  | build t ps =>
    simp only [aOp] at hr ⊢
    refine ⟨hr, ?_⟩
    unfold aBuild at hr
    split at hr
    · split at hr
      · injection hr with hr; rw [← hr]
      · cases hr
    · split at hr
      · split at hr
        · injection hr with hr; rw [← hr]
        · cases hr
      · cases hr
    · cases hr
  | fieldAddr t x f =>
    simp only [aOp] at hr ⊢
    refine ⟨hr, ?_⟩
    unfold aField at hr
    split at hr
    · injection hr with hr; rw [← hr]
    · injection hr with hr; rw [← hr]
    · cases hr
  | index t x ix =>
    simp only [aOp] at hr ⊢
    refine ⟨hr, ?_⟩
    split at hr
    · injection hr with hr; rw [← hr]
    · cases hr
  | binOp op t x y yt =>
    simp only [aOp] at hr ⊢
    refine ⟨hr, ?_⟩
    split at hr
    · split at hr
      · injection hr with hr; rw [← hr]
      · cases hr
    · split at hr
      · split at hr
        · injection hr with hr; rw [← hr]
        · cases hr
      · cases hr
  | makeFunc fn f c =>
    cases fn <;> simp only [aOp] at hr ⊢ <;> try (cases hr; done)
    refine ⟨hr, ?_⟩
    split at hr
    · injection hr with hr; rw [← hr]
    · cases hr
  | makeInterface t x =>
    simp only [aOp] at hr ⊢
    refine ⟨hr, ?_⟩
    split at hr
    · split at hr
      · injection hr with hr; rw [← hr]
      · split at hr
        · injection hr with hr; rw [← hr]
        · cases hr
    · cases hr
  | unOp op t x =>
    simp only [aOp] at hr ⊢
    refine ⟨hr, ?_⟩
    split at hr
    · split at hr
      · injection hr with hr; rw [← hr]
      · cases hr
    · cases hr
  | nilCheck x =>
    simp only [aOp] at hr ⊢
    refine ⟨hr, ?_⟩
    split at hr
    · injection hr with hr; rw [← hr]
    · cases hr
  | extract x n =>
    simp only [aOp] at hr ⊢
    refine ⟨hr, ?_⟩
    split at hr
    · split at hr
      · injection hr with hr; rw [← hr]
      · cases hr
    · cases hr
  | field t x f =>
    simp only [aOp] at hr ⊢
    refine ⟨hr, ?_⟩
    split at hr
    · injection hr with hr; rw [← hr]
    · cases hr
  | call c =>
    obtain ⟨callee, args, argTypes⟩ := c
    cases callee with
    | builtin b =>
      simp only [aOp] at hr ⊢
      have fin : ∀ {x : Option Value}, (match x with | some v => some (⟨True, .s (.l (.v v)), []⟩ : Res) | none => none) = some R → R.E = [] := by
        intro x hx
        split at hx
        · injection hx with hx; rw [← hx]
        · cases hx
      split at hr
      · split at hr
        · exact ⟨hr, fin hr⟩
        · cases hr
      · split at hr
        · cases hh
        · split at hr
          · exact ⟨hr, fin hr⟩
          · cases hr
        · split at hr
          · exact ⟨hr, fin hr⟩
          · cases hr
        · cases hr
      · cases hr
    | value f => cases hh
    | invoke _ _ => cases hh
  | _ => first | (cases hh; done) | (simp only [aOp] at hr; cases hr)

theorem aOp_congr (he : ∀ x ∈ o.operands, ev x = ev' x) : aOp P ctx id o ev h = aOp P ctx id o ev' h := by
  have hps : ∀ ps : Array (Nat × Operand), (∀ x ∈ (ps.toList.map (·.2)).toArray, ev x = ev' x) → (ps.toList.map fun (i, x) => (i, ev x)) = (ps.toList.map fun (i, x) => (i, ev' x)) := fun ps hp =>
    List.map_congr_left fun p hm => by
      obtain ⟨i, x⟩ := p
      simp only [hp x (by simp only [List.mem_toArray, List.mem_map]; exact ⟨(i, x), hm, rfl⟩)]
  have hopt : ∀ y : Option Operand, (∀ x ∈ y.toArray, ev x = ev' x) → y.map ev = y.map ev' := by
    intro y hy
    cases y with
    | none => rfl
    | some y => simp only [Option.map_some]; rw [hy y (by simp)]
  cases o with
  | build t ps => simp only [aOp, Op.operands] at he ⊢; rw [hps ps he]
  | buildSlice t n ps => simp only [aOp, Op.operands] at he ⊢; rw [hps ps he]
  | slice t x lo hi mx =>
    simp only [aOp, Op.operands] at he ⊢
    rw [he x (by simp), hopt lo fun y hy => he y (by simp at hy ⊢; simp [hy]), hopt hi fun y hy => he y (by simp at hy ⊢; simp [hy]), hopt mx fun y hy => he y (by simp at hy ⊢; simp [hy])]
  | call c =>
    obtain ⟨callee, args, argTypes⟩ := c
    cases callee with
    | builtin b =>
      simp only [aOp, Op.operands, Call.operands] at he ⊢
      split
      · rename_i x t ha ht
        rw [he x (by simp [← Array.mem_toList_iff, ha])]
      · rename_i x y t1 t2 ha ht
        rw [he x (by simp [← Array.mem_toList_iff, ha]), he y (by simp [← Array.mem_toList_iff, ha])]
      · rfl
    | value f =>
      simp only [aOp, Op.operands, Call.operands] at he ⊢
      have e1 : args.toList.map ev = args.toList.map ev' := List.map_congr_left fun x hx => he x (by simp; exact .inr (by simpa using hx))
      rw [he f (by simp), e1]
    | invoke _ _ => simp only [aOp]
  | makeFunc fn f c =>
    simp only [Op.operands] at he
    have e1 : f.toList.map ev = f.toList.map ev' := List.map_congr_left fun x hx => he x (by simp; exact .inl (by simpa using hx))
    have e2 : c.toList.map ev = c.toList.map ev' := List.map_congr_left fun x hx => he x (by simp; exact .inr (by simpa using hx))
    cases fn <;> simp only [aOp] <;> rw [e1, e2]
  | _ => simp only [aOp, Op.operands] at he ⊢ <;> simp_all
end

/-! ### The evaluation -/
def eOk (ms : Ms) (nx i : Nat) : Heap → Prop
  | [] => True
  | (b, _) :: r => b < nx + 16 * (i + 1) ∧ ((nx + 16 * i ≤ b ∨ i ∈ ms.ms ∨ b ∈ declOf ms.fs i) ∧ b ∉ declOf ms.hs i) ∧ eOk ms nx i r

theorem eOk_in {ms : Ms} {nx i : Nat} : ∀ {E : Heap} {b : Nat}, eOk ms nx i E → inE E b = true → b < nx + 16 * (i + 1) ∧ (nx + 16 * i ≤ b ∨ i ∈ ms.ms ∨ b ∈ declOf ms.fs i) ∧ b ∉ declOf ms.hs i
  | [], b, _, h => by simp [inE] at h
  | (c, v) :: r, b, ⟨h1, h2, h3⟩, h => by
    simp only [inE, List.any_cons, Bool.or_eq_true] at h
    rcases h with h | h
    · have : c = b := by simpa using h
      subst this
      exact ⟨h1, h2⟩
    · exact eOk_in h3 h

noncomputable def aDr (P : Program) (ctx : Ctx P) (n : Nat) (ms : Ms) (nx : Nat) (h0 : Heap) (Q : Exit → St → Prop) (all : List Oper) : List Oper → Nat → List Nat → List Ent → Tmps → Prop
  | [], i, _, rs, T => Q .normal ⟨nx + 16 * i, T, Hp (fun _ => true) rs 0 h0⟩
  | o :: l, i, acc, rs, T =>
    match o.guard with
    | none => match aOp P ctx (nx + 16 * i) o.op (evT T) (veil (declOf ms.hs i) (Hp (bit (befOf acc o.after.toList)) rs 0 h0)) with
      | some R => dstOk n o.dst = true ∧ R.ob ∧ eOk ms nx i R.E ∧ aDr P ctx n ms nx h0 Q all l (i + 1) (acc ++ [befOf acc o.after.toList]) (rs ++ [⟨o.dst, R.r, R.E⟩]) (putT T o.dst R.r)
      | none => False
    | some (j, want) => match gAt all T j with
      | .s (.l (.v (.bool q))) => dstOk n o.dst = true ∧ (if q = want then match aOp P ctx (nx + 16 * i) o.op (evT T) (veil (declOf ms.hs i) (Hp (bit (befOf acc o.after.toList)) rs 0 h0)) with
          | some R => dstOk n o.dst = true ∧ R.ob ∧ eOk ms nx i R.E ∧ aDr P ctx n ms nx h0 Q all l (i + 1) (acc ++ [befOf acc o.after.toList]) (rs ++ [⟨o.dst, R.r, R.E⟩]) (putT T o.dst R.r)
          | none => False
        else aDr P ctx n ms nx h0 Q all l (i + 1) (acc ++ [befOf acc o.after.toList]) (rs ++ [⟨o.dst, .s (.l .any), []⟩]) (putT T o.dst (.s (.l .any))))
      | _ => False

def aDk (P : Program) (ctx : Ctx P) (n : Nat) (ms : Ms) (nx : Nat) (h0 : Heap) (Q : Exit → St → Prop) (all : List Oper) (d : Option Tmp) (l : List Oper) (i : Nat) (acc : List Nat) (rs : List Ent) (T : Tmps) : Option Res → Prop
  | some R => dstOk n d = true ∧ R.ob ∧ eOk ms nx i R.E ∧ aDr P ctx n ms nx h0 Q all l (i + 1) acc (rs ++ [⟨d, R.r, R.E⟩]) (putT T d R.r)
  | none => False

section
variable {P : Program} {ctx : Ctx P} {n : Nat} {ms : Ms} {nx : Nat} {h0 : Heap} {Q : Exit → St → Prop} {all l : List Oper} {i : Nat} {acc : List Nat} {rs : List Ent} {T : Tmps}
theorem aDr_nil : aDr P ctx n ms nx h0 Q all [] i acc rs T = Q .normal ⟨nx + 16 * i, T, Hp (fun _ => true) rs 0 h0⟩ := by simp only [aDr]
theorem aDr_one {d : Option Tmp} {op : Op} {t : TypeId} {p : String} {af : Array Edge} : aDr P ctx n ms nx h0 Q all (⟨d, op, t, p, af, none⟩ :: l) i acc rs T = aDk P ctx n ms nx h0 Q all d l i (acc ++ [befOf acc af.toList]) rs T (aOp P ctx (nx + 16 * i) op (evT T) (veil (declOf ms.hs i) (Hp (bit (befOf acc af.toList)) rs 0 h0))) := by simp only [aDr, aDk]
theorem aDr_yes {d : Option Tmp} {op : Op} {t : TypeId} {p : String} {af : Array Edge} {j : Nat} {want : Bool} (hd : dstOk n d = true) (hj : gAt all T j = .s (.l (.v (.bool want)))) : aDr P ctx n ms nx h0 Q all (⟨d, op, t, p, af, some (j, want)⟩ :: l) i acc rs T = aDk P ctx n ms nx h0 Q all d l i (acc ++ [befOf acc af.toList]) rs T (aOp P ctx (nx + 16 * i) op (evT T) (veil (declOf ms.hs i) (Hp (bit (befOf acc af.toList)) rs 0 h0))) := by
  simp only [aDr, hj, hd, true_and, if_pos]
  cases aOp P ctx (nx + 16 * i) op (evT T) (veil (declOf ms.hs i) (Hp (bit (befOf acc af.toList)) rs 0 h0)) <;> simp [aDk, hd]
theorem aDr_no {d : Option Tmp} {op : Op} {t : TypeId} {p : String} {af : Array Edge} {j : Nat} {want : Bool} (hd : dstOk n d = true) (hj : gAt all T j = .s (.l (.v (.bool (!want))))) : aDr P ctx n ms nx h0 Q all (⟨d, op, t, p, af, some (j, want)⟩ :: l) i acc rs T = aDr P ctx n ms nx h0 Q all l (i + 1) (acc ++ [befOf acc af.toList]) (rs ++ [⟨d, .s (.l .any), []⟩]) (putT T d (.s (.l .any))) := by
  simp only [aDr, hj, hd, true_and]
  rw [if_neg (by cases want <;> simp)]
theorem aDk_some {d : Option Tmp} {ob : Prop} {x : AV} {E : Heap} : aDk P ctx n ms nx h0 Q all d l i acc rs T (some ⟨ob, x, E⟩) = (dstOk n d = true ∧ ob ∧ eOk ms nx i E ∧ aDr P ctx n ms nx h0 Q all l (i + 1) acc (rs ++ [⟨d, x, E⟩]) (putT T d x)) := rfl

/-- what is known of one operation -/
def EntOk (P : Program) (ctx : Ctx P) (n : Nat) (ms : Ms) (nx : Nat) (h0 : Heap) (all : List Oper) (t0 : Tmps) (bs : List Nat) (rs : List Ent) (k : Nat) (o : Oper) (e : Ent) : Prop :=
  e.dst = o.dst ∧ dstOk n o.dst = true ∧
  ((∃ R, aOp P ctx (nx + 16 * k) o.op (evT (Tm (fun _ => true) (rs.take k) 0 t0)) (veil (declOf ms.hs k) (Hp (bit (bs.getD k 0)) (rs.take k) 0 h0)) = some R ∧ R.ob ∧ eOk ms nx k R.E ∧ e.r = R.r ∧ e.E = R.E ∧ (o.guard = none ∨ ∃ j want, o.guard = some (j, want) ∧ gAt all (Tm (fun _ => true) (rs.take k) 0 t0) j = .s (.l (.v (.bool want))))) ∨
   (e.r = .s (.l .any) ∧ e.E = [] ∧ ∃ j want, o.guard = some (j, want) ∧ gAt all (Tm (fun _ => true) (rs.take k) 0 t0) j = .s (.l (.v (.bool (!want))))))

theorem Tm_snoc {p : Nat → Bool} {e : Ent} : ∀ {rs : List Ent} {k : Nat} {t : Tmps}, Tm p (rs ++ [e]) k t = if p (k + rs.length) then putT (Tm p rs k t) e.dst e.r else Tm p rs k t
  | [], k, t => by simp [Tm]
  | x :: r, k, t => by
    rw [List.cons_append, Tm, Tm_snoc, Tm]
    simp only [List.length_cons]
    rw [show k + 1 + r.length = k + (r.length + 1) by omega]

theorem befs_prefix : ∀ {l : List Oper} {acc : List Nat} {k : Nat}, k < acc.length → (befs acc l)[k]? = acc[k]?
  | [], _, _, _ => rfl
  | o :: l, acc, k, h => by
    rw [befs, befs_prefix (by simp; omega), List.getElem?_append_left h]

theorem befs_next {o : Oper} {l : List Oper} {acc : List Nat} : (befs acc (o :: l)).getD acc.length 0 = befOf acc o.after.toList := by
  rw [befs, List.getD_eq_getElem?_getD, befs_prefix (by simp), List.getElem?_append_right (Nat.le_refl _)]
  simp

theorem aDr_ents (t0 : Tmps) : ∀ {l : List Oper} {i : Nat} {acc : List Nat} {rs : List Ent} {T : Tmps}, aDr P ctx n ms nx h0 Q all l i acc rs T → T = Tm (fun _ => true) rs 0 t0 → acc.length = i → rs.length = i →
    ∃ rs', rs'.length = i + l.length ∧ rs'.take i = rs ∧ (∀ (k : Nat) (o : Oper), l[k]? = some o → ∃ e, rs'[i + k]? = some e ∧ EntOk P ctx n ms nx h0 all t0 (befs acc l) rs' (i + k) o e) ∧ Q .normal ⟨nx + 16 * (i + l.length), Tm (fun _ => true) rs' 0 t0, Hp (fun _ => true) rs' 0 h0⟩
  | [], i, acc, rs, T, h, hT, ha, hr => by
    simp only [aDr] at h
    subst hT
    exact ⟨rs, by simp [hr], by rw [← hr]; simp, by simp, by simpa using h⟩
  | o :: l, i, acc, rs, T, h, hT, ha, hr => by
    have go : ∀ (e : Ent), aDr P ctx n ms nx h0 Q all l (i + 1) (acc ++ [befOf acc o.after.toList]) (rs ++ [e]) (putT T e.dst e.r) → (∀ rs' : List Ent, rs'.take i = rs → EntOk P ctx n ms nx h0 all t0 (befs acc (o :: l)) rs' i o e) → ∃ rs', rs'.length = i + (o :: l).length ∧ rs'.take i = rs ∧ (∀ (k : Nat) (x : Oper), (o :: l)[k]? = some x → ∃ e, rs'[i + k]? = some e ∧ EntOk P ctx n ms nx h0 all t0 (befs acc (o :: l)) rs' (i + k) x e) ∧ Q .normal ⟨nx + 16 * (i + (o :: l).length), Tm (fun _ => true) rs' 0 t0, Hp (fun _ => true) rs' 0 h0⟩ := by
      intro e hn he
      obtain ⟨rs', g1, g2, g3, g4⟩ := aDr_ents t0 (l := l) hn (by rw [Tm_snoc, if_pos rfl, hT]) (by simp [ha]) (by simp [hr])
      have hpre : rs'.take i = rs := by
        have := congrArg (List.take i) g2
        rw [List.take_take, Nat.min_eq_left (by omega)] at this
        rw [this, ← hr, List.take_left]
      have hei : rs'[i]? = some e := by
        have : (rs'.take (i + 1))[i]? = some e := by rw [g2, ← hr, List.getElem?_append_right (Nat.le_refl _)]; simp
        rwa [List.getElem?_take, if_pos (by omega)] at this
      refine ⟨rs', by rw [g1, List.length_cons]; omega, hpre, ?_, ?_⟩
      · intro k x hx
        cases k with
        | zero =>
          simp at hx
          subst hx
          exact ⟨e, hei, he rs' hpre⟩
        | succ k =>
          have := g3 k x (by simpa using hx)
          rw [show i + 1 + k = i + (k + 1) by omega] at this
          exact this
      · rw [show i + (o :: l).length = i + 1 + l.length by simp; omega]
        exact g4
    have hbs : (befs acc (o :: l)).getD i 0 = befOf acc o.after.toList := by rw [← ha]; exact befs_next
    simp only [aDr] at h
    split at h
    · rename_i hg
      split at h
      case h_2 => exact h.elim
      rename_i R hR
      obtain ⟨h1, h2, h3, h4⟩ := h
      refine go ⟨o.dst, R.r, R.E⟩ h4 fun rs' hp => ⟨rfl, h1, .inl ⟨R, ?_, h2, h3, rfl, rfl, .inl hg⟩⟩
      rw [hp, hbs, ← hT]
      exact hR
    · rename_i j want hg
      split at h
      case h_2 => exact h.elim
      rename_i q hq
      obtain ⟨h1, h⟩ := h
      split at h
      · rename_i hqw
        split at h
        case h_2 => exact h.elim
        rename_i R hR
        obtain ⟨h1, h2, h3, h4⟩ := h
        refine go ⟨o.dst, R.r, R.E⟩ h4 fun rs' hp => ⟨rfl, h1, .inl ⟨R, ?_, h2, h3, rfl, rfl, .inr ⟨j, want, hg, ?_⟩⟩⟩
        · rw [hp, hbs, ← hT]
          exact hR
        · rw [hp, ← hT, hq, hqw]
      · rename_i hqw
        refine go ⟨o.dst, .s (.l .any), []⟩ h fun rs' hp => ⟨rfl, h1, .inr ⟨rfl, rfl, j, want, hg, ?_⟩⟩
        rw [hp, ← hT, hq]
        cases q <;> cases want <;> simp_all
end

section
variable {P : Program} {ctx : Ctx P} {ro : Cf} {n : Nat} {B : Base} {w0 : World} {ρ : Nat → Loc} {al : Al} {a : Act} {w : World}

theorem aOp_wp' {t : Tmps} {h : Heap} (hT : TRep ρ al t a.tmps) (hW : WRep B w0 ρ al h w) {id : Nat} (hid : ∀ b, id ≤ b → b < id + 16 → ¬ al b) {o : Oper} {R : Res} {Q : Exit → Act → World → Prop} {K : Act → World → Prop} (hs : aOp P ctx id o.op (evT t) h = some R) (hob : R.ob)
    (hK : ∀ v w' ρ' al', Ext ρ ρ' al al' → (∀ b, al' b → alW al id b) → ARep ρ' al' R.r v → WRep B w0 ρ' al' (R.E ++ h) w' → KeepsD w w' → K (a.put o.dst v) w') : o.wpIn (Fw ro) 0 P a w K Q := by
  refine ⟨fun _ _ => trivial, ?_⟩
  rw [Oper.semAt_eq _ _ _ (aOp_noDefer hs)]
  rcases aOp_runs hW.rebase (evT_rep hT) hid hs hob with ⟨m, v, w', ρ', hr, hm, hE, hA, hw⟩ | ⟨g, args, vals, hr, sp, hrun, vs, rfl, hA⟩
  · rw [hr]
    rcases hm with rfl | ⟨rfl, rfl⟩
    · exact hK v w' ρ' _ hE (fun _ hb => hb) hA (hW.unbase hw) hw.below.kept
    · exact hK undef w' ρ' _ hE (fun _ hb => hb) hA (hW.unbase hw) hw.below.kept
  · rw [hr]
    refine ⟨fun h => by simp [Fw, Fence.wide] at h, callsIn_fw.2 (Calls.mono (sp.sound hrun hob vs hW.rebase hid hA) ?_)⟩
    rintro e w' ⟨v, ρ', al', rfl, hE, hsub, hr', hw⟩
    exact hK v w' ρ' al' hE hsub hr' (hW.unbase hw) hw.below.kept

theorem Tm_take {p : Nat → Bool} : ∀ {rs : List Ent} {i k : Nat} {t : Tmps}, Tm p (rs.take i) k t = Tm (fun m => p m && decide (m < k + i)) rs k t
  | [], i, k, t => by simp [Tm]
  | e :: r, 0, k, t => by
    have hz : ∀ (r : List Ent) (k' : Nat) (t : Tmps), k ≤ k' → Tm (fun m => p m && decide (m < k + 0)) r k' t = t := by
      intro r
      induction r with
      | nil => intro k' t _; rfl
      | cons x r ih =>
        intro k' t hk
        rw [Tm, if_neg (by simp; omega), ih _ _ (by omega)]
    rw [hz _ _ _ (Nat.le_refl _)]
    rfl
  | e :: r, i + 1, k, t => by
    rw [List.take_succ_cons, Tm, Tm, Tm_take]
    have e1 : (p k && decide (k < k + (i + 1))) = p k := by simp
    rw [e1]
    congr 1
    funext m
    rw [show k + 1 + i = k + (i + 1) by omega]

theorem Hp_take {p : Nat → Bool} : ∀ {rs : List Ent} {i k : Nat} {t : Heap}, Hp p (rs.take i) k t = Hp (fun m => p m && decide (m < k + i)) rs k t
  | [], i, k, t => by simp [Hp]
  | e :: r, 0, k, t => by
    have hz : ∀ (r : List Ent) (k' : Nat) (t : Heap), k ≤ k' → Hp (fun m => p m && decide (m < k + 0)) r k' t = t := by
      intro r
      induction r with
      | nil => intro k' t _; rfl
      | cons x r ih =>
        intro k' t hk
        rw [Hp, if_neg (by simp; omega), ih _ _ (by omega)]
    rw [hz _ _ _ (Nat.le_refl _)]
    rfl
  | e :: r, i + 1, k, t => by
    rw [List.take_succ_cons, Hp, Hp, Hp_take]
    have e1 : (p k && decide (k < k + (i + 1))) = p k := by simp
    rw [e1]
    congr 1
    funext m
    rw [show k + 1 + i = k + (i + 1) by omega]

/-- what drawOk says -/
structure DOk (l : List Oper) (ms : Ms) : Prop where
  edge : ∀ (i : Nat) (o : Oper), l[i]? = some o → ∀ e ∈ o.after.toList, bindsE e = true → e.on < i
  bef : ∀ (i : Nat) (o : Oper) (k : Nat), l[i]? = some o → k < l.length → bit ((befs [] l).getD i 0) k = true → k < i ∧ ∃ e ∈ o.after.toList, bindsE e = true ∧ (e.on = k ∨ bit ((befs [] l).getD e.on 0) k = true)
  tied : ∀ (i k : Nat) (o x : Oper), l[i]? = some o → l[k]? = some x → k ≠ i → (tied l o x = true ∨ (k ∈ ms.ms ∧ heapy o.op = true)) → bit ((befs [] l).getD i 0) k = true ∨ bit ((befs [] l).getD k 0) i = true
  guard : ∀ (i : Nat) (o : Oper) (g : Nat) (want : Bool), l[i]? = some o → o.guard = some (g, want) → bit ((befs [] l).getD i 0) g = true ∧ g < l.length
  free : ∀ (i : Nat) (o : Oper), l[i]? = some o → ∀ m ∈ ms.fs, m.1 ≠ i → bit ((befs [] l).getD i 0) m.1 = true ∨ bit ((befs [] l).getD m.1 0) i = true ∨ ∀ b ∈ m.2, b ∈ declOf ms.hs i

theorem DOk.unord {l : List Oper} {ms : Ms} (D : DOk l ms) {i j b : Nat} {o : Oper} (ho : l[i]? = some o) (hne : j ≠ i) (hb : b ∈ declOf ms.fs j) (hn : b ∉ declOf ms.hs i) : bit ((befs [] l).getD i 0) j = true ∨ bit ((befs [] l).getD j 0) i = true := by
  obtain ⟨m, h1, rfl, h2⟩ := declOf_mem hb
  rcases D.free i o ho m h1 hne with h | h | h
  · exact .inl h
  · exact .inr h
  · exact (hn (h b h2)).elim

theorem drawOk_dok {l : List Oper} {ms : Ms} (h : drawOk l ms = true) : DOk l ms := by
  unfold drawOk at h
  have key : ∀ (i : Nat) (o : Oper), l[i]? = some o → _ := fun i o ho => by
    have h1 := List.all_eq_true.1 h i (List.mem_range.2 (List.getElem?_eq_some_iff.1 ho).1)
    rw [ho] at h1
    simp only [Bool.and_eq_true] at h1
    exact h1
  refine ⟨fun i o ho e he hb => ?_, fun i o k ho hk hb => ?_, fun i k o x ho hx hne ht => ?_, fun i o g want ho hg => ?_, fun i o ho m hm hne => ?_⟩
  · have := List.all_eq_true.1 (key i o ho).1.1.1.2 e he
    simpa [hb] using this
  · have := List.all_eq_true.1 (key i o ho).1.1.2 k (List.mem_range.2 hk)
    simp only [hb, Bool.not_true, Bool.false_or, Bool.and_eq_true, decide_eq_true_eq, List.any_eq_true, Bool.or_eq_true, beq_iff_eq] at this
    obtain ⟨h1, e, h2, h3⟩ := this
    exact ⟨h1, e, h2, h3⟩
  · have := List.all_eq_true.1 (key i o ho).1.2 k (List.mem_range.2 (List.getElem?_eq_some_iff.1 hx).1)
    simp only [hx, Bool.or_eq_true, decide_eq_true_eq] at this
    rcases this with ((h1 | h1) | h1) | h1
    · exact (hne h1).elim
    · exact .inl h1
    · exact .inr h1
    · simp only [Bool.and_eq_true, Bool.not_eq_true', Bool.and_eq_false_iff] at h1
      rcases ht with ht | ⟨h2, h3⟩
      · rw [ht] at h1; exact absurd h1.1 (by simp)
      · rcases h1.2 with h4 | h4
        · exact absurd h4 (by simp [h2])
        · rw [h3] at h4; exact absurd h4 (by simp)
  · have := (key i o ho).2
    rw [hg] at this
    simpa using this
  · have := List.all_eq_true.1 (key i o ho).1.1.1.1 m hm
    simp only [Bool.or_eq_true, decide_eq_true_eq, List.all_eq_true, List.contains_iff_mem] at this
    rcases this with ((h1 | h1) | h1) | h1
    · exact (hne h1).elim
    · exact .inl h1
    · exact .inr (.inl h1)
    · exact .inr (.inr h1)

theorem tied_of {l : List Oper} {x y : Oper} {d : Tmp} (h : (x.dst = some d ∧ (d ∈ looks y l ∨ y.dst = some d)) ∨ (y.dst = some d ∧ d ∈ looks x l)) : tied l x y = true := by
  unfold tied
  rcases h with ⟨h1, h2⟩ | ⟨h1, h2⟩
  · rw [h1]
    simp only [Bool.or_eq_true, List.contains_iff_mem, beq_iff_eq]
    exact .inl h2
  · rw [h1]
    simp only [Bool.or_eq_true, List.contains_iff_mem]
    exact .inr h2

theorem exists_last {len : Nat} {p : Nat → Prop} (h : ∃ j, j < len ∧ p j) : ∃ j, j < len ∧ p j ∧ ∀ m, j < m → m < len → ¬ p m := by
  obtain ⟨k, hk, hl⟩ := exists_least (p := fun k => ∃ j, j < len ∧ p j ∧ len - j = k) (by obtain ⟨j, h1, h2⟩ := h; exact ⟨_, j, h1, h2, rfl⟩)
  obtain ⟨j, h1, h2, h3⟩ := hk
  exact ⟨j, h1, h2, fun m hm hml hp => by have := hl _ ⟨m, hml, hp, rfl⟩; omega⟩

end

end Go.Proofs.YtcdbldakjepjiaaDoor
