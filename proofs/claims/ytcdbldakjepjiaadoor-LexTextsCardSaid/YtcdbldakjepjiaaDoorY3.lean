/- The value logic with lasting memory: ranges over functions, part 3: the rounds of a loop. No program in sight. -/
import Derived.Test.YtcdbldakjepjiaaDoorU19
import Derived.Test.YtcdbldakjepjiaaDoorY2
set_option linter.unusedVariables false
set_option linter.unusedSimpArgs false
namespace Go.Proofs.YtcdbldakjepjiaaDoor
open Go.RowKit

/-- where a loop stands -/
structure Gs (ι γ : Type) where
  i : Nat
  x : ι
  ρ : Nat → Loc
  al : Al
  out : Option (Code × St)
  go : γ

def moveS (l : List (Tmp × Tmp)) (t : Tmps) : Tmps := l.foldl (fun t x => (x.1, tget t x.2) :: t) t
theorem moveS_rep {ρ : Nat → Loc} {al : Al} : ∀ {l : List (Tmp × Tmp)} {t : Tmps} {tm : Array Value}, (∀ x ∈ l, x.1 < tm.size) → TRep ρ al t tm → TRep ρ al (moveS l t) (moveT l tm)
  | [], _, _, _, h => h
  | (d, s) :: r, t, tm, hl, h => by
    unfold moveS moveT
    rw [List.foldl_cons, List.foldl_cons]
    exact moveS_rep (l := r) (fun x hx => by rw [Array.size_setIfInBounds]; exact hl x (by simp [hx])) (TRep.put h (hl (d, s) (by simp)) (h s))
theorem moveT_size : ∀ {l : List (Tmp × Tmp)} {tm : Array Value}, (moveT l tm).size = tm.size
  | [], _ => rfl
  | (d, s) :: r, tm => by
    unfold moveT
    rw [List.foldl_cons]
    exact (moveT_size (l := r)).trans (by simp)
theorem put_size2 : ∀ {l : List (Tmp × Value)} {tm : Array Value}, (l.foldl (fun tm x => tm.setIfInBounds x.1 x.2) tm).size = tm.size
  | [], _ => rfl
  | (d, s) :: r, tm => by
    rw [List.foldl_cons]
    exact (put_size2 (l := r)).trans (by simp)

theorem putObj_same {W : World} {l : Nat} {o o' : Obj} (h : W.heap[l]? = some o) : (W.putObj l o').heap[l]? = some o' := by
  have hl : l < W.heap.size := (Array.getElem?_eq_some_iff.1 h).1
  simp [World.putObj, hl]
theorem keeps_putObj {W : World} {l : Nat} {o o' : Obj} {S : Nat → Prop} (h : W.heap[l]? = some o) (hd : isDef o = false) (hS : ¬ S l) : Keeps S W (W.putObj l o') :=
  ⟨rfl, rfl, rfl, by simp [World.putObj], fun k hk => World.putObj_heap_other (by rintro rfl; exact hS hk), fun k q hk hq => by
    rw [World.putObj_heap_other]
    · exact hk
    · rintro rfl
      rw [h] at hk
      injection hk with hk
      subst hk
      rw [hd] at hq; cases hq⟩

/-- how a round begins: what the loop's own statement does with the element -/
structure AsgOk (P : Program) (n K : Nat) (assign : Code) (s s' : St) : Prop where
  run : ∀ {l : Nat} {ob busy : Obj} {B : Base} {w0 : World} {ρ : Nat → Loc} {al : Al} {a : Act} {W : World}, W.heap[l]? = some ob → RepS n B w0 ρ al s a (W.putObj l busy) → B.ds = [] → a.defers = [] →
    (∀ b k, hget s.h b = some k → k.own = true) →
    ∃ (a' : Act) (W1 : World) (ρ' : Nat → Loc) (al' : Al), (∀ Q : Exit → Act → World → Prop, Q .normal a' W1 → assign.wpIn (Fw ⟨some l, K⟩) 0 P Q a W) ∧ a'.defers = [] ∧ RepS n B w0 ρ' al' s' a' (W1.putObj l busy) ∧ W1.heap[l]? = some ob ∧ al'.M = al.M ∧
      Keeps (fun k => k < W.heap.size) (W.putObj l busy) (W1.putObj l busy) ∧ ∀ b k, hget s'.h b = some k → k.own = true ∧ ((∃ k0, hget s.h b = some k0 ∧ ρ' b = ρ b) ∨ W.heap.size ≤ (ρ' b).blk)

theorem asg_moves {P : Program} {n K : Nat} {assign : Code} {mv : List (Tmp × Tmp)} (hm : movesOf assign = some mv) (hms : ∀ x ∈ mv, x.1 < n) (s : St) : AsgOk P n K assign s ⟨s.nx, moveS mv s.t, s.h⟩ where
  run := by
    intro l ob busy B w0 ρ al a W hl R hds hd hown
    refine ⟨{ a with tmps := moveT mv a.tmps }, W, ρ, al, fun Q hq => moves_wp hm a W Q hq, hd, ⟨moveT_size.trans R.size, R.defers, moveS_rep (fun x hx => by rw [R.size]; exact hms x hx) R.t, R.w, R.al⟩, hl, rfl, .refl _ _, fun b k hk => ⟨hown b k hk, .inl ⟨k, hk, rfl⟩⟩⟩

/-- the element in a box of its own -/
def boxOf : Code → Option (TypeId × Tmp × Tmp)
  | .region _ ⟨[o1, o2]⟩ false => match o1.op, o1.dst, o1.guard, o2.op, o2.dst, o2.guard with
    | .alloc T, some tb, none, .store T' (.tmp x) (.tmp y), none, none => if T' = T ∧ x = tb ∧ y ≠ tb then some (T, tb, y) else none
    | _, _, _, _, _, _ => none
  | _ => none
theorem boxOf_some {c : Code} {T : TypeId} {tb tp : Tmp} (h : boxOf c = some (T, tb, tp)) : ∃ id o1 o2, c = .region id #[o1, o2] false ∧ o1.op = .alloc T ∧ o1.dst = some tb ∧ o1.guard = none ∧ o2.op = .store T (.tmp tb) (.tmp tp) ∧ o2.dst = none ∧ o2.guard = none ∧ tp ≠ tb := by
  unfold boxOf at h
  split at h
  case h_2 => cases h
  rename_i id o1 o2
  split at h
  case h_2 => cases h
  rename_i T1 tb1 T2 x y h1 h2 h3 h4 h5 h6
  split at h
  case isFalse => cases h
  rename_i hc
  obtain ⟨rfl, rfl, hne⟩ := hc
  injection h with h
  injection h with e1 h
  injection h with e2 e3
  subst e1; subst e2; subst e3
  exact ⟨id, o1, o2, rfl, h1, h2, h3, h4, h5, h6, hne⟩

theorem putObj_alloc {W : World} {l : Nat} {o b : Obj} (hl : l < W.heap.size) : (W.putObj l b).alloc o = (W.alloc o).putObj l b := by
  have e : (W.heap.setIfInBounds l b).push o = (W.heap.push o).setIfInBounds l b := by
    apply Array.ext_getElem?
    intro i
    simp only [Array.getElem?_push, Array.getElem?_setIfInBounds, Array.size_setIfInBounds, Array.size_push]
    by_cases h1 : i = W.heap.size
    · have h2 : ¬ l = i := by omega
      simp [h1, show ¬ l = W.heap.size by omega]
    · by_cases h2 : l = i
      · subst h2
        simp [h1, hl, show l < W.heap.size + 1 by omega]
      · simp [h1, h2]
  unfold World.putObj World.alloc
  simp only [e]
theorem setCell_putObj {W : World} {l N o : Nat} {b : Obj} {v : Value} (h : N ≠ l) : (W.putObj l b).setCell ⟨N, o, none⟩ v = (W.setCell ⟨N, o, none⟩ v).putObj l b := by
  have e : ∀ f : Obj → Obj, (W.heap.setIfInBounds l b).modify N f = (W.heap.modify N f).setIfInBounds l b := by
    intro f
    apply Array.ext_getElem?
    intro i
    simp only [Array.getElem?_modify, Array.getElem?_setIfInBounds, Array.size_modify]
    by_cases h1 : N = i
    · subst h1
      simp [h.symm]
    · by_cases h2 : l = i
      · simp [h1, h2]
      · simp [h1, h2]
  unfold World.putObj World.setCell
  simp only [e]
theorem setCells_putObj {l N : Nat} {b : Obj} (h : N ≠ l) : ∀ (vs : List Value) (o : Nat) (W : World), (W.putObj l b).setCells N o vs = (W.setCells N o vs).putObj l b
  | [], _, _ => rfl
  | v :: vs, o, W => by
    unfold World.setCells
    rw [setCell_putObj h, setCells_putObj h vs]

theorem asg_box {P : Program} {n K : Nat} {assign : Code} {T : TypeId} {tb tp : Tmp} (hm : boxOf assign = some (T, tb, tp)) (htb : tb < n) {s : St} {xs : List LV} (hx : cellsOf (tget s.t tp) = some xs) {zs : List Value} (hz : zeroOf P T = some zs) (hs : szOf P T = some xs.length) (hzl : zs.length = xs.length) :
    AsgOk P n K assign s ⟨s.nx + 1, (tb, .s (.l (.p s.nx 0 0))) :: s.t, (s.nx, some ⟨true, T, xs.length, [xs]⟩) :: s.h⟩ where
  run := by
    intro l ob busy B w0 ρ al a W hl R hds hd hown
    obtain ⟨id, o1, o2, rfl, p1, p2, p3, q1, q2, q3, hne⟩ := boxOf_some hm
    have hlt : l < W.heap.size := (Array.getElem?_eq_some_iff.1 hl).1
    have hid : ¬ al s.nx := fun h => Nat.lt_irrefl _ (R.al _ h)
    obtain ⟨i, z, hi, hzz, hzl2, hsz, hone⟩ := zeroOf_some hz
    obtain ⟨y, hy⟩ : ∃ y, a.tmps.getD tp undef = y := ⟨_, rfl⟩
    have hrep : LsRep ρ al xs y.cells.toList := by rw [← hy]; exact cellsOf_rep (R.t tp) hx
    have hyl := hrep.length
    have hsize : (W.putObj l busy).heap.size = W.heap.size := by simp [World.putObj]
    have hNl : W.heap.size ≠ l := by omega
    obtain ⟨ρ', E, e, H'⟩ := R.w.alloc hid T xs.length 1 [zs.map .v] z.cells (by rw [Nat.one_mul, ← hzl, ← hzl2]; simp) (by unfold maxLen; omega) (by simp) ⟨by simp [hzl], fun i j x hx => by
      obtain ⟨rfl, hx⟩ := cellAt_one hx
      have := (zs_rep (ρ := ρ) (al := al) hone).get j x hx
      rw [← hzl2] at this
      simpa using this⟩
    have hget : hget ((s.nx, some (⟨true, T, xs.length, [zs.map .v]⟩ : Blk)) :: s.h) s.nx = some ⟨true, T, xs.length, [zs.map .v]⟩ := by rw [Go.Proofs.YtcdbldakjepjiaaDoor.hget, if_pos rfl]
    have hrep' : LsRep ρ' (al1 al s.nx) xs y.cells.toList := hrep.ext E
    have H2 := H'.store hget rfl (i := 0) (j := 0) (e := zs.map .v) rfl hrep' (by rw [Nat.zero_add]; exact Nat.le_refl _)
    have hspl : splice (zs.map LV.v) 0 xs = xs := by
      unfold splice
      simp [List.drop_of_length_le (show (zs.map LV.v).length ≤ xs.length by rw [List.length_map, hzl]; exact Nat.le_refl _)]
    rw [e, hsize] at H2
    simp only [Nat.zero_mul, Nat.add_zero, List.set_cons_zero, hspl] at H2
    rw [putObj_alloc hlt, setCells_putObj hNl] at H2
    obtain ⟨W1, hW1⟩ : ∃ W1, (W.alloc (.cells z.cells T)).setCells W.heap.size 0 y.cells.toList = W1 := ⟨_, rfl⟩
    rw [hW1] at H2
    have H3 : WRep B w0 ρ' (al1 al s.nx) ((s.nx, some ⟨true, T, xs.length, [xs]⟩) :: s.h) (W1.putObj l busy) := H2.sub (fun b k hk => by
      rw [Go.Proofs.YtcdbldakjepjiaaDoor.hget] at hk ⊢
      split at hk
      · rename_i hb; rw [if_pos hb]; exact hk
      · rename_i hb; rw [if_neg hb, Go.Proofs.YtcdbldakjepjiaaDoor.hget, if_neg hb]; exact hk)
    have htba : tb < a.tmps.size := by rw [R.size]; exact htb
    have hsz2 : y.cells.size = xs.length := by rw [← hyl]; simp
    have hoff : W1.heap[l]? = some ob := by
      have hA : (W.alloc (.cells z.cells T)).heap[l]? = some ob := (Below.heap_alloc _ _ _ hlt).trans hl
      rw [← hW1]
      have : ∀ (vs : List Value) (o : Nat) (V : World), V.heap[l]? = some ob → (V.setCells W.heap.size o vs).heap[l]? = some ob := by
        intro vs
        induction vs with
        | nil => exact fun _ _ h => h
        | cons v vs ih =>
          intro o V hV
          unfold World.setCells
          refine ih _ _ ?_
          unfold World.setCell
          simp only [Array.getElem?_modify, if_neg hNl]
          exact hV
      exact this _ _ _ hA
    refine ⟨{ a with tmps := a.tmps.setIfInBounds tb (.pointer (some ⟨W.heap.size, 0, none⟩)) }, W1, ρ', al1 al s.nx, fun Q hq => ?_, hd, ⟨by rw [Array.size_setIfInBounds]; exact R.size, ?_, TRep.put (R.t.ext E) htba ⟨.inr rfl, by rw [e, hsize]; simp⟩, H3, ?_⟩, hoff, rfl, ?_, ?_⟩
    · -- the two operations
      obtain ⟨a1, ha1⟩ : ∃ a1 : Act, ({ a with tmps := a.tmps.setIfInBounds tb (.pointer (some ⟨W.heap.size, 0, none⟩)) } : Act) = a1 := ⟨_, rfl⟩
      have hput : a.put o1.dst (.pointer (some ⟨W.heap.size, 0, none⟩)) = a1 := by rw [p2, ← ha1]; rfl
      have hput2 : ∀ v, a1.put o2.dst v = a1 := fun v => by rw [q2]; rfl
      rw [ha1] at hq
      have g1 : (newVar T z).run P W = .ok ⟨W.heap.size, 0, none⟩ (W.alloc (.cells z.cells T)) := rfl
      have r1 : (execOp a.eval o1).run P W = .ok (.value (.pointer (some ⟨W.heap.size, 0, none⟩))) (W.alloc (.cells z.cells T)) := by
        simp [execOp, p1, Instr.alloc, zeroValue, typeInfo, hi, hzz, g1]
      have ev1 : a1.eval (.tmp tb) = .pointer (some ⟨W.heap.size, 0, none⟩) := by
        rw [← ha1]
        show (a.tmps.setIfInBounds tb _).getD tb undef = _
        simp [Array.getD_eq_getD_getElem?, htba]
      have ev2 : a1.eval (.tmp tp) = y := by
        rw [← ha1, ← hy]
        show (a.tmps.setIfInBounds tb _).getD tp undef = a.tmps.getD tp undef
        simp [Array.getD_eq_getD_getElem?, Array.getElem?_setIfInBounds, hne.symm]
      have hnew := heap_alloc_new W (.cells z.cells T)
      have hzs : z.cells.size = xs.length := by rw [← hzl, ← hzl2]; simp
      have hst := run_storeCells_cells (P := P) W.heap.size 0 y.cells.toList 0 (W.alloc (.cells z.cells T)) (fun m hm => by
        rw [hyl] at hm
        unfold World.cell?
        rw [hnew]
        simp [hzs, hm]) (fun m hm => by
        rw [hyl] at hm
        unfold World.frozen?
        rw [hnew]
        simp) hrep.one
      simp only [Nat.add_zero] at hst
      have h1 : (Instr.storeAt T (a1.eval (.tmp tb)) (a1.eval (.tmp tp))).run P (W.alloc (.cells z.cells T)) = .ok () W1 := by
        rw [ev1, ev2, ← hW1]
        simp [Instr.storeAt, Instr.sureAddr, storeVar, szOf_run hs, hsz2, hst]
      have r2 : (execOp a1.eval o2).run P (W.alloc (.cells z.cells T)) = .ok .skip W1 := by
        simp only [execOp, q1, Sem.run_bind, h1, Result.andThen_ok, Sem.run_pure]
      refine wpIn_region ?_
      rw [show List.range (#[o1, o2] : Array Oper).size = [0, 1] from rfl]
      have hw1 : Region.wanted o1 (yielded #[o1, o2] a.tmps) = true := by unfold Region.wanted; rw [p3]
      have hw2 : Region.wanted o2 (yielded #[o1, o2] a1.tmps) = true := by unfold Region.wanted; rw [q3]
      simp only [wpOpsIn, List.getElem?_toArray, List.getElem?_cons_zero, List.getElem?_cons_succ]
      rw [if_pos hw1]
      refine ⟨fun _ _ => trivial, ?_⟩
      rw [Oper.semAt_eq _ _ _ (fun c e => by rw [p1] at e; cases e), r1, Oper.uponIn_value, hput, if_pos hw2]
      refine ⟨fun _ _ => trivial, ?_⟩
      rw [Oper.semAt_eq _ _ _ (fun c e => by rw [q1] at e; cases e), r2]
      show Q .normal (a1.put o2.dst undef) W1
      rw [hput2]
      exact hq
    · rw [hds, hd]; exact Marks.nil _ _ _
    · rintro b (hb | rfl)
      · exact Nat.lt_succ_of_lt (R.al b hb)
      · exact Nat.lt_succ_self _
    · have hB : Below W.heap.size (W.putObj l busy) (W1.putObj l busy) := by
        rw [← hW1, ← setCells_putObj hNl, ← putObj_alloc hlt]
        have : ∀ (vs : List Value) (o : Nat) (V : World), Below W.heap.size (W.putObj l busy) V → Below W.heap.size (W.putObj l busy) (V.setCells W.heap.size o vs) := by
          intro vs
          induction vs with
          | nil => exact fun _ _ h => h
          | cons v vs ih =>
            intro o V hV
            unfold World.setCells
            exact ih _ _ (Below.setCell hV (Nat.le_refl _) _)
        exact this _ _ _ ((Below.refl _ _).alloc (by rw [hsize]; exact Nat.le_refl _) _)
      have hK := keeps_below (w := W.putObj l busy) (w' := W1.putObj l busy) (by rw [hsize]; exact hB)
      rw [hsize] at hK
      exact hK
    · intro b k hk
      rw [Go.Proofs.YtcdbldakjepjiaaDoor.hget] at hk
      split at hk
      · rename_i hb
        subst hb
        injection hk with hk
        subst hk
        exact ⟨rfl, .inr (by rw [e, hsize]; exact Nat.le_refl _)⟩
      · rename_i hb
        exact ⟨hown b k hk, .inl ⟨k, hk, E.eq b (R.w.blk b k hk).here⟩⟩

/-- a loop over a function -/
structure LoopC (P : Program) (n K : Nat) (ι : Type) {lo : Nat} {Lo : List (List AV)} {γ : Type} (Ro : Rounds P lo Lo γ) where
  ps : Array Tmp
  assign : Code
  body : Code
  en : ι → List AV → St
  L : List (List AV)
  fn : FuncId
  tm : Array Value
  t : Tmps
  inv : Nat → ι → Prop
  H : ι → Heap
  nx : ι → Nat
  Y : ι → Nat × Bool
  Ex : Code → St → Nat × Bool → Prop
  hen : ∀ x As, As ∈ L → AsgOk P n K assign ⟨nx x, putPs (ps.toList.zip As) t, H x⟩ (en x As)
  hps : ∀ p ∈ ps.toList, p < n
  hL : ∀ As ∈ L, As.length = ps.size
  size : tm.size = n
  tst : ∀ ρ al ρ' al', al.M.le al'.M → (∀ j, j < K → al' j ∧ ρ' j = ρ j) → TRep ρ al t tm → TRep ρ' al' t tm
  hown : ∀ i x, inv i x → ∀ b k, hget (H x) b = some k → k.own = true
  hex : ∀ c s y, Ex c s y → ∀ b k, hget s.h b = some k → k.own = true
  hbody : ∀ (l i : Nat) (x : ι) (As : List AV), inv i x → L[i]? = some As → SWy P lo Lo ⟨some l, K⟩ n body (en x As) (Y x) fun e s' y' => match e with
    | .normal => ∃ x', inv (i + 1) x' ∧ Y x' = y' ∧ Wk ⟨some l, K⟩ ⟨s'.nx, [], s'.h⟩ ⟨nx x', [], H x'⟩
    | .ret => Ex .ret s' y'
    | .exit id => Ex (.exit id) s' y'
    | _ => False

section
variable {P : Program} {n K : Nat} {ι : Type} {lo : Nat} {Lo : List (List AV)} {γ : Type} {Ro : Rounds P lo Lo γ}

def LoopC.rcd (C : LoopC P n K ι Ro) (D : Nat) (st : LoopState) (pe : Option Code) : Loop := { state := st, pending := pe, fn := C.fn, tmps := C.tm, params := C.ps, assign := C.assign, body := C.body, defers := D }

def LoopC.hp (C : LoopC P n K ι Ro) (g : Gs ι γ) : Heap := match g.out with | none => C.H g.x | some (_, s) => s.h
def LoopC.nxg (C : LoopC P n K ι Ro) (g : Gs ι γ) : Nat := match g.out with | none => C.nx g.x | some (_, s) => s.nx

structure LoopC.Jg (C : LoopC P n K ι Ro) (B1 : Base) (w1 : World) (g1 : γ) (l D : Nat) (g : Gs ι γ) (W : World) : Prop where
  hD : W.heap[D]? = some (.deferred (some []))
  hl : W.heap[l]? = some (.loop (C.rcd D (if g.out.isNone then .ready else .done) (g.out.map (·.1))))
  hw : WRep B1 w1 g.ρ g.al (C.hp g) W
  al : ∀ b, g.al b → b < C.nxg g
  own : ∀ b k, hget (C.hp g) b = some k → k.own = true
  t : TRep g.ρ g.al C.t C.tm
  here : match g.out with | none => C.inv g.i g.x ∧ C.Y g.x = (Ro.pos g.go, Ro.live g.go) | some (c, s) => C.Ex c s (Ro.pos g.go, Ro.live g.go)
  Jo : Ro.J g.go W
  N : Ro.N0 ≤ w1.heap.size
  dep : ∀ b k, hget (C.hp g) b = some k → (g.ρ b).cap ≠ 0 → ¬ Ro.dep g.go (g.ρ b).blk
  ownN : ∀ b k, hget (C.hp g) b = some k → (g.ρ b).cap ≠ 0 → Ro.N0 ≤ (g.ρ b).blk
  mem : ∀ b o y, g.al.M b o = some y → ¬ Ro.mt g.go b
  memN : ∀ b o y, g.al.M b o = some y → Ro.M0 b o = some y ∨ Ro.N0 ≤ b
  S : ∀ k, B1.S k → ¬ Ro.mt g.go k
  ld : ¬ Ro.dep g.go l
  dd : ¬ Ro.dep g.go D
  fol : ∀ k, Ro.dep g.go k → Ro.dep g1 k ∨ w1.heap.size ≤ k ∨ ∃ o y, g.al.M k o = some y
  folm : ∀ k, Ro.mt g.go k → Ro.mt g1 k ∨ w1.heap.size ≤ k

def LoopC.dep (C : LoopC P n K ι Ro) (B1 : Base) (w1 : World) (l D : Nat) (g : Gs ι γ) (k : Nat) : Prop :=
  ownB (C.hp g) g.ρ k ∨ k = l ∨ k = D ∨ B1.S k ∨ (∃ o y, g.al.M k o = some y) ∨ (∃ o : Obj, w1.heap[k]? = some o ∧ isDef o = true) ∨ Ro.dep g.go k
def LoopC.mt (C : LoopC P n K ι Ro) (l : Nat) (g : Gs ι γ) (k : Nat) : Prop := ownB (C.hp g) g.ρ k ∨ k = l ∨ Ro.mt g.go k

theorem LoopC.steady (C : LoopC P n K ι Ro) {B1 : Base} {w1 : World} {g1 : γ} {l D : Nat} {g : Gs ι γ} {A W : World} (h : C.Jg B1 w1 g1 l D g A)
    (hk : Kept (C.dep B1 w1 l D g) A W) : C.Jg B1 w1 g1 l D g W := by
  refine ⟨(hk.block D (.inr (.inr (.inl rfl)))).trans h.hD, (hk.block l (.inr (.inl rfl))).trans h.hl, h.hw.step (.refl _ _) ⟨hk.os.trans h.hw.below.os, hk.tape.trans h.hw.below.tape, hk.output.trans h.hw.below.output, Nat.le_trans h.hw.below.size hk.size, fun k hS => (hk.block k (.inr (.inr (.inr (.inl hS))))).trans (h.hw.below.block k hS), fun k o hko ho => (hk.block k (.inr (.inr (.inr (.inr (.inr (.inl ⟨o, hko, ho⟩))))))).trans (h.hw.below.others k o hko ho)⟩ (fun b k hb hc => hk.block _ (.inl ⟨b, k, hb, ?_, rfl⟩)) (fun b hb => hk.block _ (.inr (.inr (.inr (.inr (.inl hb)))))), h.al, h.own, h.t, h.here, Ro.steady _ _ _ h.Jo (hk.mono fun k hd => .inr (.inr (.inr (.inr (.inr (.inr hd)))))), h.N, h.dep, h.ownN, h.mem, h.memN, h.S, h.ld, h.dd, h.fol, h.folm⟩
  rcases hc with hc | hc
  · have := (h.hw.blk b k hb).cap
    intro h0
    exact hc (List.eq_nil_of_length_eq_zero (by omega))
  · exact hc.2

theorem LoopC.fit (C : LoopC P n K ι Ro) {B1 : Base} {w1 : World} {g1 : γ} {l D : Nat} {g : Gs ι γ} {A : World} (h : C.Jg B1 w1 g1 l D g A) :
    ∀ k, C.dep B1 w1 l D g k → k < A.heap.size := by
  rintro k (⟨b, kk, h1, h2, rfl⟩ | rfl | rfl | hS | ⟨o, y, hy⟩ | ⟨o, ho, _⟩ | hd)
  · exact h.hw.lt h1 (.inr ⟨h.own b kk h1, h2⟩)
  · exact (Array.getElem?_eq_some_iff.1 h.hl).1
  · exact (Array.getElem?_eq_some_iff.1 h.hD).1
  · exact h.hw.size k hS
  · exact h.hw.memLt hy
  · exact Nat.lt_of_lt_of_le (Array.getElem?_eq_some_iff.1 ho).1 h.hw.below.size
  · exact Ro.fit _ _ h.Jo k hd

end

end Go.Proofs.YtcdbldakjepjiaaDoor
