/- The value logic with lasting memory: ranges over functions, part 3: the rounds of a loop. No program in sight. -/
import Derived.Test.YtcdbldakjepjiaaDoorU19
import Derived.Test.YtcdbldakjepjiaaDoorY2
set_option linter.unusedVariables false
set_option linter.unusedSimpArgs false
namespace Go.Proofs.YtcdbldakjepjiaaDoor
open Go.RowKit

/-- where a loop stands -/
structure Gs (ι γ : Type) where
  i : Nat
  x : ι
  ρ : Nat → Loc
  al : Al
  out : Option (Code × St)
  go : γ

def moveS (l : List (Tmp × Tmp)) (t : Tmps) : Tmps := l.foldl (fun t x => (x.1, tget t x.2) :: t) t
theorem moveS_rep {ρ : Nat → Loc} {al : Al} : ∀ {l : List (Tmp × Tmp)} {t : Tmps} {tm : Array Value}, (∀ x ∈ l, x.1 < tm.size) → TRep ρ al t tm → TRep ρ al (moveS l t) (moveT l tm)
  | [], _, _, _, h => h
  | (d, s) :: r, t, tm, hl, h => by
    unfold moveS moveT
    rw [List.foldl_cons, List.foldl_cons]
    exact moveS_rep (l := r) (fun x hx => by rw [Array.size_setIfInBounds]; exact hl x (by simp [hx])) (TRep.put h (hl (d, s) (by simp)) (h s))
theorem moveT_size : ∀ {l : List (Tmp × Tmp)} {tm : Array Value}, (moveT l tm).size = tm.size
  | [], _ => rfl
  | (d, s) :: r, tm => by
    unfold moveT
    rw [List.foldl_cons]
    exact (moveT_size (l := r)).trans (by simp)
theorem put_size2 : ∀ {l : List (Tmp × Value)} {tm : Array Value}, (l.foldl (fun tm x => tm.setIfInBounds x.1 x.2) tm).size = tm.size
  | [], _ => rfl
  | (d, s) :: r, tm => by
    rw [List.foldl_cons]
    exact (put_size2 (l := r)).trans (by simp)

theorem putObj_same {W : World} {l : Nat} {o o' : Obj} (h : W.heap[l]? = some o) : (W.putObj l o').heap[l]? = some o' := by
  have hl : l < W.heap.size := (Array.getElem?_eq_some_iff.1 h).1
  simp [World.putObj, hl]
theorem keeps_putObj {W : World} {l : Nat} {o o' : Obj} {S : Nat → Prop} (h : W.heap[l]? = some o) (hd : isDef o = false) (hS : ¬ S l) : Keeps S W (W.putObj l o') :=
  ⟨rfl, rfl, rfl, by simp [World.putObj], fun k hk => World.putObj_heap_other (by rintro rfl; exact hS hk), fun k q hk hq => by
    rw [World.putObj_heap_other]
    · exact hk
    · rintro rfl
      rw [h] at hk
      injection hk with hk
      subst hk
      rw [hd] at hq; cases hq⟩

/-- a loop over a function -/
structure LoopC (P : Program) (n K : Nat) (ι : Type) {lo : Nat} {Lo : List (List AV)} {γ : Type} (Ro : Rounds P lo Lo γ) where
  ps : Array Tmp
  assign : Code
  body : Code
  mv : List (Tmp × Tmp)
  L : List (List AV)
  fn : FuncId
  tm : Array Value
  t : Tmps
  inv : Nat → ι → Prop
  H : ι → Heap
  nx : ι → Nat
  Y : ι → Nat × Bool
  Ex : Code → St → Nat × Bool → Prop
  hmv : movesOf assign = some mv
  hps : ∀ p ∈ ps.toList, p < n
  hms : ∀ x ∈ mv, x.1 < n
  hL : ∀ As ∈ L, As.length = ps.size
  size : tm.size = n
  tst : ∀ ρ al ρ' al', al.M.le al'.M → (∀ j, j < K → al' j ∧ ρ' j = ρ j) → TRep ρ al t tm → TRep ρ' al' t tm
  hown : ∀ i x, inv i x → ∀ b k, hget (H x) b = some k → k.own = true
  hex : ∀ c s y, Ex c s y → ∀ b k, hget s.h b = some k → k.own = true
  hbody : ∀ (l i : Nat) (x : ι) (As : List AV), inv i x → L[i]? = some As → SWy P lo Lo ⟨some l, K⟩ n body ⟨nx x, moveS mv (putPs (ps.toList.zip As) t), H x⟩ (Y x) fun e s' y' => match e with
    | .normal => ∃ x', inv (i + 1) x' ∧ Y x' = y' ∧ Wk ⟨some l, K⟩ ⟨s'.nx, [], s'.h⟩ ⟨nx x', [], H x'⟩
    | .ret => Ex .ret s' y'
    | .exit id => Ex (.exit id) s' y'
    | _ => False

section
variable {P : Program} {n K : Nat} {ι : Type} {lo : Nat} {Lo : List (List AV)} {γ : Type} {Ro : Rounds P lo Lo γ}

def LoopC.rcd (C : LoopC P n K ι Ro) (D : Nat) (st : LoopState) (pe : Option Code) : Loop := { state := st, pending := pe, fn := C.fn, tmps := C.tm, params := C.ps, assign := C.assign, body := C.body, defers := D }

def LoopC.hp (C : LoopC P n K ι Ro) (g : Gs ι γ) : Heap := match g.out with | none => C.H g.x | some (_, s) => s.h
def LoopC.nxg (C : LoopC P n K ι Ro) (g : Gs ι γ) : Nat := match g.out with | none => C.nx g.x | some (_, s) => s.nx

structure LoopC.Jg (C : LoopC P n K ι Ro) (B1 : Base) (w1 : World) (g1 : γ) (l D : Nat) (g : Gs ι γ) (W : World) : Prop where
  hD : W.heap[D]? = some (.deferred (some []))
  hl : W.heap[l]? = some (.loop (C.rcd D (if g.out.isNone then .ready else .done) (g.out.map (·.1))))
  hw : WRep B1 w1 g.ρ g.al (C.hp g) W
  al : ∀ b, g.al b → b < C.nxg g
  own : ∀ b k, hget (C.hp g) b = some k → k.own = true
  t : TRep g.ρ g.al C.t C.tm
  here : match g.out with | none => C.inv g.i g.x ∧ C.Y g.x = (Ro.pos g.go, Ro.live g.go) | some (c, s) => C.Ex c s (Ro.pos g.go, Ro.live g.go)
  Jo : Ro.J g.go W
  N : Ro.N0 ≤ w1.heap.size
  dep : ∀ b k, hget (C.hp g) b = some k → (g.ρ b).cap ≠ 0 → ¬ Ro.dep g.go (g.ρ b).blk
  ownN : ∀ b k, hget (C.hp g) b = some k → (g.ρ b).cap ≠ 0 → Ro.N0 ≤ (g.ρ b).blk
  mem : ∀ b o y, g.al.M b o = some y → ¬ Ro.mt g.go b
  memN : ∀ b o y, g.al.M b o = some y → Ro.M0 b o = some y ∨ Ro.N0 ≤ b
  S : ∀ k, B1.S k → ¬ Ro.mt g.go k
  ld : ¬ Ro.dep g.go l
  dd : ¬ Ro.dep g.go D
  fol : ∀ k, Ro.dep g.go k → Ro.dep g1 k ∨ w1.heap.size ≤ k ∨ ∃ o y, g.al.M k o = some y
  folm : ∀ k, Ro.mt g.go k → Ro.mt g1 k ∨ w1.heap.size ≤ k

def LoopC.dep (C : LoopC P n K ι Ro) (B1 : Base) (w1 : World) (l D : Nat) (g : Gs ι γ) (k : Nat) : Prop :=
  ownB (C.hp g) g.ρ k ∨ k = l ∨ k = D ∨ B1.S k ∨ (∃ o y, g.al.M k o = some y) ∨ (∃ o : Obj, w1.heap[k]? = some o ∧ isDef o = true) ∨ Ro.dep g.go k
def LoopC.mt (C : LoopC P n K ι Ro) (l : Nat) (g : Gs ι γ) (k : Nat) : Prop := ownB (C.hp g) g.ρ k ∨ k = l ∨ Ro.mt g.go k

theorem LoopC.steady (C : LoopC P n K ι Ro) {B1 : Base} {w1 : World} {g1 : γ} {l D : Nat} {g : Gs ι γ} {A W : World} (h : C.Jg B1 w1 g1 l D g A)
    (hk : Kept (C.dep B1 w1 l D g) A W) : C.Jg B1 w1 g1 l D g W := by
  refine ⟨(hk.block D (.inr (.inr (.inl rfl)))).trans h.hD, (hk.block l (.inr (.inl rfl))).trans h.hl, h.hw.step (.refl _ _) ⟨hk.os.trans h.hw.below.os, hk.tape.trans h.hw.below.tape, hk.output.trans h.hw.below.output, Nat.le_trans h.hw.below.size hk.size, fun k hS => (hk.block k (.inr (.inr (.inr (.inl hS))))).trans (h.hw.below.block k hS), fun k o hko ho => (hk.block k (.inr (.inr (.inr (.inr (.inr (.inl ⟨o, hko, ho⟩))))))).trans (h.hw.below.others k o hko ho)⟩ (fun b k hb hc => hk.block _ (.inl ⟨b, k, hb, ?_, rfl⟩)) (fun b hb => hk.block _ (.inr (.inr (.inr (.inr (.inl hb)))))), h.al, h.own, h.t, h.here, Ro.steady _ _ _ h.Jo (hk.mono fun k hd => .inr (.inr (.inr (.inr (.inr (.inr hd)))))), h.N, h.dep, h.ownN, h.mem, h.memN, h.S, h.ld, h.dd, h.fol, h.folm⟩
  rcases hc with hc | hc
  · have := (h.hw.blk b k hb).cap
    intro h0
    exact hc (List.eq_nil_of_length_eq_zero (by omega))
  · exact hc.2

theorem LoopC.fit (C : LoopC P n K ι Ro) {B1 : Base} {w1 : World} {g1 : γ} {l D : Nat} {g : Gs ι γ} {A : World} (h : C.Jg B1 w1 g1 l D g A) :
    ∀ k, C.dep B1 w1 l D g k → k < A.heap.size := by
  rintro k (⟨b, kk, h1, h2, rfl⟩ | rfl | rfl | hS | ⟨o, y, hy⟩ | ⟨o, ho, _⟩ | hd)
  · exact h.hw.lt h1 (.inr ⟨h.own b kk h1, h2⟩)
  · exact (Array.getElem?_eq_some_iff.1 h.hl).1
  · exact (Array.getElem?_eq_some_iff.1 h.hD).1
  · exact h.hw.size k hS
  · exact h.hw.memLt hy
  · exact Nat.lt_of_lt_of_le (Array.getElem?_eq_some_iff.1 ho).1 h.hw.below.size
  · exact Ro.fit _ _ h.Jo k hd

end

end Go.Proofs.YtcdbldakjepjiaaDoor
