/- The value logic with lasting memory, part 12: a function's start and end; functions of deep values. No program in sight. -/
import Derived.Test.YtcdbldakjepjiaaDoorU11
set_option linter.unusedVariables false
set_option linter.unusedSimpArgs false
namespace Go.Proofs.YtcdbldakjepjiaaDoor
open Go.RowKit

/-! ### A function's results -/
def rvOf (P : Program) (s : St) : ResultVar → Option AV
  | .tmp t => some (tget s.t t)
  | .cell a t => match aLoad P t (tget s.t a) s.h with
    | some R => some R.r
    | none => none

def toSs : List AV → Option (List SV)
  | [] => some []
  | .s x :: r => (toSs r).map (x :: ·)
  | .fn g f c :: r => match toDs0 f, toDs0 c with
    | some fd, some cd => (toSs r).map (.l (.d (.fn g fd cd)) :: ·)
    | _, _ => none
  | .tup _ :: _ => none

def rvsOf (P : Program) (s : St) : List ResultVar → Option (List AV)
  | [] => some []
  | x :: r => match rvOf P s x, rvsOf P s r with
    | some A, some l => some (A :: l)
    | _, _ => none

def aRet (P : Program) (rs : List ResultVar) (s : St) : Option AV :=
  match rvsOf P s rs with
  | some [A] => some A
  | some l => (toSs l).map .tup
  | none => none

section
variable {P : Program} {n : Nat} {B : Base} {w0 : World} {ρ : Nat → Loc} {al : Al} {s : St} {a : Act} {w : World}

def rvSem (tm : Array Value) : ResultVar → Sem Value
  | .tmp t => pure (tm.getD t undef)
  | .cell b t => do loadVar t (← asAddr (tm.getD b undef))

theorem rvOf_sound (H : RepS n B w0 ρ al s a w) {x : ResultVar} {A : AV} (hx : rvOf P s x = some A) :
    ∃ v, (rvSem a.tmps x).run P w = .ok v w ∧ ARep ρ al A v := by
  cases x with
  | tmp t =>
    injection hx with hx
    subst hx
    exact ⟨_, rfl, H.t t⟩
  | cell b t =>
    simp only [rvOf] at hx
    split at hx
    case h_2 => cases hx
    rename_i R hR
    injection hx with hx
    subst hx
    obtain ⟨v, h1, h2, _⟩ := aLoad_sound (P := P) H.w (H.t b) hR
    refine ⟨v, ?_, h2⟩
    unfold aLoad at hR
    split at hR
    · rename_i b' i' j' e
      have := H.t b
      rw [e] at this
      obtain ⟨_, hp⟩ := this
      rw [hp] at h1
      simp only [rvSem, hp]
      simpa [Instr.loadAt, Instr.sureAddr, asAddr] using h1
    · rename_i xs e
      have := H.t b
      rw [e] at this
      simp only [ARep, SRep, LRep, DRep] at this
      obtain ⟨blk, off, hp, _⟩ := this
      rw [hp] at h1
      simp only [rvSem, hp]
      simpa [Instr.loadAt, Instr.sureAddr, asAddr] using h1
    · cases hR

theorem rvsOf_sound (H : RepS n B w0 ρ al s a w) : ∀ {l : List ResultVar} {As : List AV}, rvsOf P s l = some As →
    ∃ vs, (l.mapM (rvSem a.tmps)).run P w = .ok vs w ∧ AsRep ρ al As vs
  | [], As, h => by
    injection h with h
    subst h
    exact ⟨[], rfl, trivial⟩
  | x :: l, As, h => by
    simp only [rvsOf] at h
    split at h
    case h_2 => cases h
    rename_i A r hA hr
    injection h with h
    subst h
    obtain ⟨v, g1, g2⟩ := rvOf_sound H hA
    obtain ⟨vs, g3, g4⟩ := rvsOf_sound H hr
    refine ⟨v :: vs, ?_, g2, g4⟩
    rw [List.mapM_cons, Sem.run_bind, g1, Result.andThen_ok, Sem.run_bind, g3]
    rfl

theorem toSs_rep : ∀ {As : List AV} {ss : List SV} {vs : List Value}, toSs As = some ss → AsRep ρ al As vs → SsRep ρ al ss vs
  | [], ss, [], h, _ => by injection h with h; subst h; trivial
  | .s x :: r, ss, v :: vs, h, ⟨a, b⟩ => by
    simp only [toSs, Option.map_eq_some_iff] at h
    obtain ⟨l, h1, rfl⟩ := h
    exact ⟨a, toSs_rep h1 b⟩
  | .fn g f c :: r, ss, v :: vs, h, ⟨a, b⟩ => by
    simp only [toSs] at h
    split at h
    case h_2 => cases h
    rename_i fd cd h1 h2
    rw [Option.map_eq_some_iff] at h
    obtain ⟨l, h3, rfl⟩ := h
    refine ⟨?_, toSs_rep h3 b⟩
    obtain ⟨fs, cs, rfl, g1, g2⟩ := a
    simp only [SRep, LRep, DRep]
    exact ⟨fs, cs, rfl, toDs0_rep h1 g1, toDs0_rep h2 g2⟩
  | .tup _ :: _, _, _, h, _ => by cases h
  | [], _, _ :: _, _, h => h.elim
  | _ :: _, _, [], _, h => h.elim

theorem aRet_sound (H : RepS n B w0 ρ al s a w) {fn : Func} {r : AV} (hr : aRet P fn.results.toList s = some r) : ∃ v, (results fn a.tmps).run P w = .ok v w ∧ ARep ρ al r v := by
  unfold aRet at hr
  have hm : ∀ {vs : List Value}, (fn.results.toList.mapM (rvSem a.tmps)).run P w = .ok vs w → (results fn a.tmps).run P w = .ok (if h : vs.toArray.size = 1 then vs.toArray[0] else .tuple vs.toArray) w := by
    intro vs hv
    have e : results fn a.tmps = (do let vs ← fn.results.mapM (rvSem a.tmps); pure (if h : vs.size = 1 then vs[0] else .tuple vs)) := by
      unfold results
      congr 1
    rw [e, Array.mapM_eq_mapM_toList]
    simp only [Sem.run_bind, Sem.run_map, hv, Result.andThen_ok, Sem.run_pure]
  split at hr
  · rename_i A hA
    injection hr with hr
    subst hr
    obtain ⟨vs, g1, g2⟩ := rvsOf_sound H hA
    obtain ⟨v, rfl⟩ : ∃ v, vs = [v] := by
      cases vs with
      | nil => exact g2.elim
      | cons v r => cases r with
        | nil => exact ⟨v, rfl⟩
        | cons _ _ => exact g2.2.elim
    exact ⟨v, by rw [hm g1]; rfl, g2.1⟩
  · rename_i l hne hl
    rw [Option.map_eq_some_iff] at hr
    obtain ⟨ss, h1, rfl⟩ := hr
    obtain ⟨vs, g1, g2⟩ := rvsOf_sound H hl
    have hlen := g2.length
    refine ⟨.tuple vs.toArray, ?_, vs, rfl, toSs_rep h1 g2⟩
    rw [hm g1, dif_neg]
    intro h
    have : l.length = 1 := by rw [← hlen]; simpa using h
    cases l with
    | nil => cases this
    | cons A r => cases r with
      | nil => exact hne A rfl
      | cons _ _ => cases this
  · cases hr

/-! ### The marks are taken away -/
structure Unmark (N : Nat) (w w' : World) : Prop where
  os : w'.os = w.os
  tape : w'.tape = w.tape
  output : w'.output = w.output
  size : w'.heap.size = w.heap.size
  same : ∀ k : Nat, (k < N ∨ ∃ o : Obj, w.heap[k]? = some o ∧ o.isCells = true) → w'.heap[k]? = w.heap[k]?

theorem Unmark.refl (N : Nat) (w : World) : Unmark N w w := ⟨rfl, rfl, rfl, rfl, fun _ _ => rfl⟩
theorem Unmark.trans {N : Nat} {a b c : World} (h : Unmark N a b) (k : Unmark N b c) : Unmark N a c :=
  ⟨k.os.trans h.os, k.tape.trans h.tape, k.output.trans h.output, k.size.trans h.size, fun i hi => by
    rw [k.same i ?_, h.same i hi]
    rcases hi with hi | ⟨o, h1, h2⟩
    · exact .inl hi
    · exact .inr ⟨o, by rw [h.same i (.inr ⟨o, h1, h2⟩)]; exact h1, h2⟩⟩

theorem leaves_marks {F : Fence} {n : Nat} {fn : Func} {tm : Array Value} {R : Ending → World → Prop} {u : FrameMode} (hu : u ≠ .run) {N : Nat} {d0 : List Deferred} : ∀ (rs : List Nat) (w : World), rs.Nodup → (∀ r ∈ rs, N ≤ r ∧ w.heap[r]? = some (.deferred (some []))) → (∀ w', Unmark N w w' → LeavesInM F n P fn tm R d0 u w') → LeavesInM F n P fn tm R (rs.map mark ++ d0) u w
  | [], w, _, _, h => h w (.refl N w)
  | r :: rs, w, hd, hr, h => by
    have h0 := hr r (by simp)
    rw [List.nodup_cons] at hd
    have hlt : r < w.heap.size := (Array.getElem?_eq_some_iff.1 h0.2).1
    have hU : Unmark N w (w.putObj r (.deferred none)) := ⟨rfl, rfl, rfl, by simp [World.putObj], fun k hk => by
      refine World.putObj_heap_other ?_
      rintro rfl
      rcases hk with hk | ⟨o, h1, h2⟩
      · omega
      · rw [h0.2] at h1; injection h1 with h1; subst h1; cases h2⟩
    refine ⟨hu, .inl ⟨r, _, rfl, run_takeDeferred h0.2, leaves_marks hu rs _ hd.2 (fun q hq => ?_) fun w' hw' => h w' (hU.trans hw')⟩⟩
    have := hr q (by simp [hq])
    refine ⟨this.1, ?_⟩
    rw [World.putObj_heap_other (by rintro rfl; exact hd.1 hq)]
    exact this.2

theorem isCells_of {w : World} {b o : Nat} {y : Value} (h : w.cell? ⟨b, o, none⟩ = some y) : ∃ q : Obj, w.heap[b]? = some q ∧ q.isCells = true := by
  obtain ⟨q, h1, h2⟩ := cells_of_cell h
  exact ⟨q, h1, h2⟩

theorem RepS.unmark (H : RepS n B w0 ρ al s a w) {w' : World} (hU : Unmark w0.heap.size w w') : RepS n B w0 ρ al s { a with defers := B.ds } w' := by
  refine ⟨H.size, Marks.nil _ _ _, H.t, H.w.step (.refl _ _) ⟨hU.os.trans H.w.below.os, hU.tape.trans H.w.below.tape, hU.output.trans H.w.below.output, by rw [hU.size]; exact H.w.below.size, fun k hk => (hU.same k (.inl (H.w.base k hk))).trans (H.w.below.block k hk), fun k o hk ho => ?_⟩ (fun b k hk hc => hU.same _ ?_) (fun b ⟨o, y, hy⟩ => hU.same b (.inr (isCells_of (H.w.mem b o y hy)))), H.al⟩
  · rw [hU.same k (.inl (Array.getElem?_eq_some_iff.1 hk).1)]
    exact H.w.below.others k o hk ho
  · cases ho : k.own with
    | true =>
      right
      have hcap : (ρ b).cap ≠ 0 := by
        rcases hc with hc | hc
        · have := (H.w.blk b k hk).cap
          intro h0
          exact hc (List.eq_nil_of_length_eq_zero (by omega))
        · exact hc.2
      obtain ⟨cur, fr, h1, _⟩ := ((H.w.blk b k hk).room ho).2.2 hcap
      exact ⟨_, h1, rfl⟩
    | false => exact .inl (H.w.base _ (H.w.old b k hk ho (hc.resolve_right (by rw [ho]; simp))))

end

def zipT : Nat → List AV → Tmps
  | _, [] => []
  | j, A :: r => (j, A) :: zipT (j + 1) r

theorem rep_getD (j : Nat) (vs : List Value) (k : Nat) : (List.replicate j undef ++ vs).getD k undef = if k < j then undef else vs.getD (k - j) undef := by
  rw [List.getD_eq_getElem?_getD, List.getElem?_append]
  simp only [List.length_replicate]
  split
  · rename_i h
    rw [List.getElem?_replicate, if_pos h]; rfl
  · rw [List.getD_eq_getElem?_getD]

theorem zipT_rep {ρ : Nat → Loc} {al : Al} : ∀ {args : List AV} {vals : List Value} (j : Nat), AsRep ρ al args vals → ∀ k, ARep ρ al (tget (zipT j args) k) ((List.replicate j undef ++ vals).getD k undef)
  | [], [], j, _, k => trivial
  | A :: r, v :: vs, j, ⟨a, b⟩, k => by
    have := zipT_rep (j + 1) b k
    rw [rep_getD] at this ⊢
    rw [zipT, tget]
    split
    · rename_i e
      subst e
      rw [if_neg (Nat.lt_irrefl _), Nat.sub_self]
      exact a
    · rename_i hne
      rcases Nat.lt_or_ge k j with h | h
      · rw [if_pos h]
        rw [if_pos (by omega)] at this
        exact this
      · rw [if_neg (by omega)]
        rw [if_neg (by omega)] at this
        rw [show k - j = (k - (j + 1)) + 1 by omega, List.getD_cons_succ]
        exact this

theorem enter_t {ρ : Nat → Loc} {al : Al} {args : List AV} {vals : List Value} (hA : AsRep ρ al args vals) (m : Nat) : TRep ρ al (zipT 0 args) (vals.toArray ++ Array.replicate m undef) := by
  intro k
  have := zipT_rep 0 hA k
  simp only [List.replicate_zero, List.nil_append] at this
  rw [Array.getD_eq_getD_getElem?, Array.getElem?_append]
  rw [List.getD_eq_getElem?_getD] at this
  split
  · simpa using this
  · rename_i hk
    rw [List.getElem?_eq_none (by simpa using hk)] at this
    rw [Array.getElem?_replicate]
    split <;> simpa using this

/-- how a function's body ends: it returns, or panics -/
def endQ (post : St → Prop) (pp : Value → St → Prop) : Exit → St → Prop
  | .normal, s => post s
  | .ret, s => post s
  | .panic ch, s => ∃ x, ch = [{ v := x, recovered := false }] ∧ pp x s
  | _, _ => False

theorem endQ_normal {post : St → Prop} {pp : Value → St → Prop} {s : St} : endQ post pp .normal s = post s := rfl
theorem endQ_ret {post : St → Prop} {pp : Value → St → Prop} {s : St} : endQ post pp .ret s = post s := rfl
theorem endQ_panic {post : St → Prop} {pp : Value → St → Prop} {x : Value} {s : St} : endQ post pp (.panic [{ v := x, recovered := false }]) s = pp x s := by
  simp [endQ]

section
variable {P : Program}

/-- A function's body, walked, gives the function's contract. -/
theorem calls_of_sw {f : FuncId} {fn : Func} {c : Code} (hf : P.funcs[f]? = some fn) (hb : fn.body = some c) {K : Nat} {B : Base} {w : World} {ρ : Nat → Loc} {al : Al} {s0 : St} {vals : List Value} {post : St → Prop} {pp : Value → St → Prop} {R : Ending → World → Prop}
    (hpl : B.pl.length = K) (hds : B.ds = []) (H : RepS fn.ntmps B w ρ al s0 { tmps := vals.toArray ++ Array.replicate (fn.ntmps - vals.toArray.size) undef, defers := [] } w)
    (hsw : SW P ⟨none, K⟩ fn.ntmps c s0 (endQ post pp))
    (hret : ∀ s ρ al a w1, post s → RepS fn.ntmps B w ρ al s a w1 → ∃ v, (results fn a.tmps).run P w1 = .ok v w1 ∧ R (.returned v) w1)
    (hpan : ∀ x s ρ al a w1, pp x s → RepS fn.ntmps B w ρ al s a w1 → R (.panicked [{ v := x, recovered := false }]) w1) : Calls P f vals.toArray w R := by
  refine (callsIn_fw (ro := ⟨none, K⟩) (n := 0)).1 (callsIn_of_wp_marks hf hb trivial (wpIn_mono (hsw B w ρ al _ w hpl H) ?_) rfl)
  rintro e a' w' ⟨ρ', al', s', H', hq⟩
  obtain ⟨rs, h1, h2, h3⟩ := H'.defers
  have ret : post s' → LeavesInM (Fw ⟨none, K⟩) 0 P fn a'.tmps R a'.defers .returning w' := by
    intro hp
    rw [h2, hds]
    refine leaves_marks (by simp) rs w' h1 h3 fun w2 hU => ?_
    exact hret s' ρ' al' { a' with defers := B.ds } w2 hp (H'.unmark hU)
  cases e with
  | normal => exact ret hq
  | ret => exact ret hq
  | panic ch =>
    obtain ⟨x, rfl, hp⟩ := hq
    show LeavesInM (Fw ⟨none, K⟩) 0 P fn a'.tmps R a'.defers (.panicking _) w'
    rw [h2, hds]
    refine leaves_marks (by simp) rs w' h1 h3 fun w2 hU => ?_
    exact hpan x s' ρ' al' { a' with defers := B.ds } w2 hp (H'.unmark hU)
  | exit _ => exact hq.elim
  | goto _ => exact hq.elim
  | outgrown => exact hq.elim

/-! ### Functions of deep values -/
inductive PO where
  | ret (r : AV)
  | pan (x : Value)

theorem mapT_mono {α β : Type} {g g' : α → Option (Prop × List Nat × β)} (hg : ∀ x r, g x = some r → g' x = some r) : ∀ {xs : List α} {r : Prop × List Nat × List β}, mapT g xs = some r → mapT g' xs = some r
  | [], r, h => h
  | x :: xs, r, h => by
    simp only [mapT] at h ⊢
    split at h
    case h_2 => cases h
    rename_i h1 h2
    rw [hg _ _ h1, mapT_mono hg h2]
    exact h

theorem toD_mono {h h' : Heap} (hs : ∀ b k, hget h b = some k → hget h' b = some k) : ∀ (f : Nat) {x : LV} {r : Prop × List Nat × D}, LV.toD h f x = some r → LV.toD h' f x = some r
  | 0, x, r, hx => by cases x <;> first | exact hx | (simp only [LV.toD] at hx; cases hx)
  | f + 1, x, r, hx => by
    cases x with
    | v x => exact hx
    | d x => exact hx
    | any => simp only [LV.toD] at hx; cases hx
    | sl b i n =>
      simp only [LV.toD] at hx ⊢
      split at hx
      case h_2 => cases hx
      rename_i k hk
      simp only [hs _ _ hk]
      split at hx
      case isFalse => cases hx
      rename_i ho
      rw [if_pos ho]
      split at hx
      case h_2 => cases hx
      rename_i hm
      rw [mapT_mono (fun y q hy => mapT_mono (fun z t hz => toD_mono hs f hz) hy) hm]
      exact hx
    | p b i j =>
      simp only [LV.toD] at hx ⊢
      split at hx
      case h_2 => cases hx
      rename_i k hk
      simp only [hs _ _ hk]
      split at hx
      case isFalse => cases hx
      rename_i ho
      rw [if_pos ho]
      split at hx
      case h_2 => cases hx
      rename_i e he
      try rw [he]
      try simp only
      split at hx
      case h_2 => cases hx
      rename_i hm
      rw [mapT_mono (fun z t hz => toD_mono hs f hz) hm]
      exact hx

theorem SV.toD_mono {h h' : Heap} (hs : ∀ b k, hget h b = some k → hget h' b = some k) (f : Nat) {x : SV} {r : Prop × List Nat × SV} (hx : SV.toD h f x = some r) : SV.toD h' f x = some r := by
  cases x with
  | l x =>
    simp only [SV.toD] at hx ⊢
    split at hx
    case h_2 => cases hx
    rename_i h1
    rw [Go.Proofs.YtcdbldakjepjiaaDoor.toD_mono hs f h1]
    exact hx
  | agg xs =>
    simp only [SV.toD] at hx ⊢
    split at hx
    case h_2 => cases hx
    rename_i h1
    rw [mapT_mono (fun z t hz => Go.Proofs.YtcdbldakjepjiaaDoor.toD_mono hs f hz) h1]
    exact hx

theorem AV.toD_mono {h h' : Heap} (hs : ∀ b k, hget h b = some k → hget h' b = some k) (f : Nat) {x : AV} {r : Prop × List Nat × AV} (hx : AV.toD h f x = some r) : AV.toD h' f x = some r := by
  cases x with
  | s x =>
    simp only [AV.toD] at hx ⊢
    split at hx
    case h_2 => cases hx
    rename_i h1
    rw [SV.toD_mono hs f h1]
    exact hx
  | tup xs =>
    simp only [AV.toD] at hx ⊢
    split at hx
    case h_2 => cases hx
    rename_i h1
    rw [mapT_mono (fun z t hz => SV.toD_mono hs f hz) h1]
    exact hx
  | fn g a c =>
    simp only [AV.toD] at hx ⊢
    split at hx
    case h_2 => cases hx
    rename_i h1 h2
    rw [mapT_mono (fun z t hz => Go.Proofs.YtcdbldakjepjiaaDoor.toD_mono hs f hz) h1, mapT_mono (fun z t hz => Go.Proofs.YtcdbldakjepjiaaDoor.toD_mono hs f hz) h2]
    exact hx

def hides (r : AV) (u : List Nat) : Heap := if r.plain = true then [] else u.map fun b => (b, none)

def runP {X : Type} (dec : List AV → Option (Prop × X)) (out : X → PO) (h : Heap) (args : List AV) : Option Res :=
  match mapT (AV.toD h 4) args with
  | some (p, u, as) => match dec as with
    | some (q, x) => match out x with
      | .ret r => some ⟨p ∧ q, r, hides r u⟩
      | .pan _ => none
    | none => none
  | none => none

def panP {X : Type} (dec : List AV → Option (Prop × X)) (out : X → PO) (h : Heap) (args : List AV) : Option (Prop × Value × Heap) :=
  match mapT (AV.toD h 4) args with
  | some (p, u, as) => match dec as with
    | some (q, x) => match out x with
      | .ret _ => none
      | .pan v => some (p ∧ q, v, [])
    | none => none
  | none => none

/-- what a result comes to when all is made lasting -/
def retD (o : PO) : Option (Prop × List Nat × AV) → Prop
  | some (q, _, r) => q ∧ o = .ret r
  | none => False
def retQ (h : Heap) (o : PO) : Option AV → Prop
  | some r0 => retD o (AV.toD h 4 r0)
  | none => False

/-- what a function of deep values ends with -/
def outQ (P : Program) (rs : List ResultVar) (o : PO) : Exit → St → Prop :=
  endQ (fun s => retQ s.h o (aRet P rs s)) (fun x _ => o = .pan x)
theorem outQ_normal {P : Program} {rs : List ResultVar} {o : PO} {s : St} : outQ P rs o .normal s = retQ s.h o (aRet P rs s) := rfl
theorem outQ_ret {P : Program} {rs : List ResultVar} {o : PO} {s : St} : outQ P rs o .ret s = retQ s.h o (aRet P rs s) := rfl
theorem outQ_panic {P : Program} {rs : List ResultVar} {o : PO} {x : Value} {s : St} : outQ P rs o (.panic [{ v := x, recovered := false }]) s = (o = .pan x) := endQ_panic

section
variable {B : Base} {w0 : World} {ρ : Nat → Loc} {al : Al} {h : Heap} {w : World}

/-- The start: the function's own numbers, and the memory that is lasting to it. -/
theorem gokP (H : WRep B w0 ρ al h w) (U : List Nat) : Gok (frzM al.M ρ h U w) := H.gok.mono frzM_le
theorem enterP (H : WRep B w0 ρ al h w) (U : List Nat) : WRep ⟨fun k => k < w.heap.size, frzM al.M ρ h U w, [], [], gokP H U⟩ w (fun _ => ⟨0, 0, 0, 0, false⟩) ⟨fun _ => False, frzM al.M ρ h U w⟩ [] w :=
  ⟨fun _ hk => hk, .refl _ _, (fun b k hk => by cases hk), (fun b k hk => by cases hk), (fun b k hk => by cases hk), (fun b c k l hk => by cases hk), fun b o y hy => frzM_mem H hy, (fun b k hk => by cases hk), fun b o y hy => .inl hy, Mem.le_refl _, fun j l hj => by simp at hj⟩

/-- The end: blocks that the caller has are as they were. -/
theorem leaveP (H : WRep B w0 ρ al h w) {M : Mem} {ρ1 : Nat → Loc} {al1 : Al} {h1 : Heap} {w1 : World} {pl : List Loc} {g : Gok M} (H1 : WRep ⟨fun k => k < w.heap.size, M, pl, [], g⟩ w ρ1 al1 h1 w1) : WRep B w0 ρ al h w1 :=
  H.step (.refl _ _) (H.below.trans (H1.below.mono fun k hk => H.size k hk)) (fun b k hk hc => H1.below.block _ (H.lt hk hc)) (fun b ⟨_, _, hb⟩ => H1.below.block _ (H.memLt hb))

theorem hget_hides {U : List Nat} : ∀ {b : Nat} {k : Blk}, hget ((U.map fun b => (b, none)) ++ h) b = some k → b ∉ U ∧ hget h b = some k := by
  induction U with
  | nil => exact fun hk => ⟨by simp, hk⟩
  | cons c U ih =>
    intro b k hk
    simp only [List.map_cons, List.cons_append, hget] at hk
    split at hk
    · cases hk
    · rename_i hne
      obtain ⟨h1, h2⟩ := ih hk
      exact ⟨by simp only [List.mem_cons, not_or]; exact ⟨fun e => hne e.symm, h1⟩, h2⟩

/-- The same, with more that lasts; the blocks that were made lasting are not the caller's any more. -/
theorem leaveD (H : WRep B w0 ρ al h w) {U U1 : List Nat} {ρ1 : Nat → Loc} {al1 : Al} {h1 : Heap} {w1 : World} {g : Gok (frzM al.M ρ h U w)} (H1 : WRep ⟨fun k => k < w.heap.size, frzM al.M ρ h U w, [], [], g⟩ w ρ1 al1 h1 w1) :
    Ext ρ ρ al ⟨al.p, frzM al1.M ρ1 h1 U1 w1⟩ ∧ WRep B w0 ρ ⟨al.p, frzM al1.M ρ1 h1 U1 w1⟩ ((U.map fun b => (b, none)) ++ h) w1 := by
  have hle : al.M.le (frzM al1.M ρ1 h1 U1 w1) := Mem.le_trans (Mem.le_trans frzM_le H1.memOld) frzM_le
  have E : Ext ρ ρ al ⟨al.p, frzM al1.M ρ1 h1 U1 w1⟩ := ⟨fun _ _ => rfl, hle, fun _ hb => hb⟩
  have H2 := leaveP H H1
  -- a cell that is lasting now, in a block that was there
  have old : ∀ b o y, frzM al1.M ρ1 h1 U1 w1 b o = some y → b < w.heap.size → al.M b o = some y ∨ ∃ c k, c ∈ U ∧ hget h c = some k ∧ k.own = true ∧ (ρ c).cap ≠ 0 ∧ (ρ c).blk = b := by
    intro b o y hy hb
    rcases frzM_some hy with hy | ⟨⟨c, k, _, hk, ho, hc, rfl⟩, _⟩
    · rcases H1.memNew b o y hy with hy | hy
      · rcases frzM_some hy with hy | ⟨hy, _⟩
        · exact .inl hy
        · exact .inr hy
      · exact absurd hb hy
    · exact absurd hb (H1.own c k hk ho hc)
  refine ⟨E, H2.base, H2.below, fun b k hk => (H2.blk b k (hget_hides hk).2).ext E rfl, fun b k hk => H2.own b k (hget_hides hk).2, fun b k hk => H2.old b k (hget_hides hk).2, fun b c k l hk hl => H2.apart b c k l (hget_hides hk).2 (hget_hides hl).2, fun b o y hy => frzM_mem H1 hy, fun b k hk ho hc o => ?_, fun b o y hy => ?_, Mem.le_trans H.memOld hle, H2.pins⟩
  · obtain ⟨hn, hk⟩ := hget_hides hk
    cases hy : frzM al1.M ρ1 h1 U1 w1 (ρ b).blk o with
    | none => exact hy
    | some y =>
      rcases old _ _ _ hy ((H.blk b k hk).lt ho hc) with h2 | ⟨c, k', hcU, hk', ho', hc', e⟩
      · rw [H.memOwn b k hk ho hc o] at h2; cases h2
      · exact absurd e (H.apart c b k' k hk' hk ho' ho hc' hc (fun e => hn (e ▸ hcU)))
  · by_cases hb : b < w.heap.size
    · rcases old _ _ _ hy hb with h2 | ⟨c, k', hcU, hk', ho', hc', rfl⟩
      · exact H.memNew b o y h2
      · exact .inr (H.own c k' hk' ho' hc')
    · exact .inr fun hS => hb (H.size _ hS)
end

theorem retQ_some {h : Heap} {o : PO} {r : Option AV} (hq : retQ h o r) : ∃ r0 q u r', r = some r0 ∧ AV.toD h 4 r0 = some (q, u, r') ∧ q ∧ o = .ret r' := by
  unfold retQ at hq
  split at hq
  · rename_i r0
    unfold retD at hq
    split at hq
    · rename_i q u r' e
      exact ⟨r0, q, u, r', rfl, e, hq.1, hq.2⟩
    · exact hq.elim
  · exact hq.elim

/-- A function whose arguments and results are deep. -/
def mkP {X : Type} (f : FuncId) (fn : Func) (c : Code) (hf : P.funcs[f]? = some fn) (hb : fn.body = some c)
    (hen : ∀ (args : Array Value) (w : World), (callFunc f args).run P w = .ok (.enter f args) w)
    (dec : List AV → Option (Prop × X)) (enc : X → List AV) (out : X → PO)
    (hdec : ∀ {as : List AV} {q : Prop} {x : X}, dec as = some (q, x) → q → (enc x).length ≤ fn.ntmps ∧ ∀ (ρ : Nat → Loc) (al : Al) (vals : List Value), AsRep ρ al as vals → AsRep ρ al (enc x) vals)
    (body : ∀ {as : List AV} {q : Prop} {x : X}, dec as = some (q, x) → q → SW P ⟨none, 0⟩ fn.ntmps c ⟨0, zipT 0 (enc x), []⟩ (outQ P fn.results.toList (out x))) : Spec P f where
  enter := hen
  run := fun _ h args => runP dec out h args
  pan := fun _ h args => panP dec out h args
  mono := by
    intro id h h' args R hs hr
    unfold runP at hr ⊢
    split at hr
    case h_2 => cases hr
    rename_i p u as hm
    rw [mapT_mono (fun z t hz => AV.toD_mono hs 4 hz) hm]
    exact hr
  sound := by
    intro id h args R hr hob B w0 ρ al w vals H hid hA
    unfold runP at hr
    split at hr
    case h_2 => cases hr
    rename_i p u as hm
    split at hr
    case h_2 => cases hr
    rename_i q x hd
    split at hr
    case h_2 => cases hr
    rename_i r hout
    injection hr with hr
    subst hr
    obtain ⟨hp, hq⟩ := hob
    obtain ⟨hlen, henc⟩ := hdec hd hq
    have hA1 := henc (fun _ => ⟨0, 0, 0, 0, false⟩) ⟨fun _ => False, frzM al.M ρ h u w⟩ vals (views_rep H rfl hm hp (fun _ hc => hc) hA)
    have hl := hA1.length
    refine calls_of_sw (B := ⟨fun k => k < w.heap.size, frzM al.M ρ h u w, [], [], gokP H u⟩) (ρ := fun _ => ⟨0, 0, 0, 0, false⟩) (al := ⟨fun _ => False, frzM al.M ρ h u w⟩) (s0 := ⟨0, zipT 0 (enc x), []⟩) hf hb rfl rfl ⟨by simp; omega, Marks.nil _ _ _, enter_t hA1 _, enterP H u, fun b hb => hb.elim⟩ (body hd hq) ?_ ?_
    · intro s ρ1 al1 a w1 hq1 H1
      obtain ⟨r0, q1, u1, r1, h1, h2, h3, h4⟩ := retQ_some hq1
      rw [hout] at h4
      injection h4 with h4
      subst h4
      obtain ⟨v, g1, g2⟩ := aRet_sound (fn := fn) H1 h1
      refine ⟨v, g1, ?_⟩
      have g3 := AV.toD_rep (U := u1) (ρ2 := ρ) (al2 := ⟨al.p, frzM al1.M ρ1 s.h u1 w1⟩) H1.w rfl h2 h3 (fun _ hc => hc) g2
      by_cases hpl : r.plain = true
      · refine ⟨v, ρ, al, rfl, .refl _ _, fun b hb => .inl hb, g3.plain hpl, ?_⟩
        unfold hides
        rw [if_pos hpl]
        exact leaveP H H1.w
      · obtain ⟨g4, g5⟩ := leaveD (U1 := u1) H H1.w
        refine ⟨v, ρ, _, rfl, g4, fun b hb => .inl hb, g3, ?_⟩
        unfold hides
        rw [if_neg hpl]
        exact g5
    · intro y s ρ1 al1 a w1 h1 H1
      rw [hout] at h1; cases h1
  psound := by
    intro id h args ob y E hr hob B w0 ρ al w vals H hid hA
    unfold panP at hr
    split at hr
    case h_2 => cases hr
    rename_i p u as hm
    split at hr
    case h_2 => cases hr
    rename_i q x hd
    split at hr
    case h_1 => cases hr
    rename_i v hout
    injection hr with hr
    injection hr with e1 hr
    injection hr with e2 e3
    subst e1
    subst e2
    subst e3
    obtain ⟨hp, hq⟩ := hob
    obtain ⟨hlen, henc⟩ := hdec hd hq
    have hA1 := henc (fun _ => ⟨0, 0, 0, 0, false⟩) ⟨fun _ => False, frzM al.M ρ h u w⟩ vals (views_rep H rfl hm hp (fun _ hc => hc) hA)
    have hl := hA1.length
    refine calls_of_sw (B := ⟨fun k => k < w.heap.size, frzM al.M ρ h u w, [], [], gokP H u⟩) (ρ := fun _ => ⟨0, 0, 0, 0, false⟩) (al := ⟨fun _ => False, frzM al.M ρ h u w⟩) (s0 := ⟨0, zipT 0 (enc x), []⟩) hf hb rfl rfl ⟨by simp; omega, Marks.nil _ _ _, enter_t hA1 _, enterP H u, fun b hb => hb.elim⟩ (body hd hq) ?_ ?_
    · intro s ρ1 al1 a w1 hq1 H1
      obtain ⟨r0, q1, u1, r1, h1, h2, h3, h4⟩ := retQ_some hq1
      rw [hout] at h4; cases h4
    · intro y' s ρ1 al1 a w1 h1 H1
      rw [hout] at h1
      injection h1 with h1
      subst h1
      exact ⟨ρ, al, rfl, .refl _ _, fun b hb => .inl hb, leaveP H H1.w⟩

end

end Go.Proofs.YtcdbldakjepjiaaDoor
