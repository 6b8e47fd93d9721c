/- The value logic with lasting memory: ranges over functions, part 5: the whole range, in any code and in an iterator's. No program in sight. -/
import Derived.Test.YtcdbldakjepjiaaDoorY4
set_option linter.unusedVariables false
set_option linter.unusedSimpArgs false
namespace Go.Proofs.YtcdbldakjepjiaaDoor
open Go.RowKit

section
variable {P : Program} {n K : Nat} {ι : Type} {lo : Nat} {Lo : List (List AV)} {γ : Type} {Ro : Rounds P lo Lo γ}

def LoopC.rounds (C : LoopC P n K ι Ro) {B1 : Base} {w1 : World} {g1 : γ} {l D : Nat} (hKB : B1.pl.length = K) (hlS : ¬ B1.S l) : Rounds P l C.L (Gs ι γ) where
  N0 := w1.heap.size
  M0 := B1.M
  J := C.Jg B1 w1 g1 l D
  dep := C.dep B1 w1 l D
  mt := C.mt l
  pos := fun g => g.i
  live := fun g => g.out.isNone
  fit := fun g W h => C.fit h
  steady := fun g A W h hk => C.steady h hk
  sub := fun g k hk => hk.elim .inl fun h => h.elim (fun h => .inr (.inl h)) fun h => .inr (.inr (.inr (.inr (.inr (.inr (Ro.sub _ k h))))))
  round := fun g W M As vs h hl hv hM hMm hrep => C.round hKB hlS h hl hv hM hMm hrep
end

section
variable {P : Program} {n K : Nat} {ι : Type} {lo : Nat} {Lo : List (List AV)}

theorem swy_rangeG {gop : Operand} {ps : Array Tmp} {assign body : Code} (en : ι → List AV → St) {L : List (List AV)} {t : Tmps} (inv : Nat → ι → Prop) (H : ι → Heap) (nx : ι → Nat) (Y : ι → Nat × Bool) (Ex : Code → St → Nat × Bool → Prop) {Q : Exit → St → Nat × Bool → Prop} {gf : FuncId} (it : It P gf) {ds : List D} {q : Prop}
    (hd : it.dec ds = some (q, L)) (hq : q) (hg : evT t gop = .s (.l (.d (.fn gf [] ds)))) (hen : ∀ x As, As ∈ L → AsgOk P n K assign ⟨nx x, putPs (ps.toList.zip As) t, H x⟩ (en x As)) (hps : ∀ p ∈ ps.toList, p < n) (hL : ∀ As ∈ L, As.length = ps.size)
    (tpin : ∀ ρ al ρ' al' tm, al.M.le al'.M → (∀ j, j < K → al' j ∧ ρ' j = ρ j) → TRep ρ al t tm → TRep ρ' al' t tm)
    (hown : ∀ i x, inv i x → ∀ b k, hget (H x) b = some k → k.own = true) (hex : ∀ c s y, Ex c s y → ∀ b k, hget s.h b = some k → k.own = true)
    (x0 : ι) (h0 : inv 0 x0)
    (hbody : ∀ (l i : Nat) (x : ι) (As : List AV), inv i x → L[i]? = some As → SWy P lo Lo ⟨some l, K⟩ n body (en x As) (Y x) fun e s' y' => match e with
      | .normal => ∃ x', inv (i + 1) x' ∧ Y x' = y' ∧ Wk ⟨some l, K⟩ ⟨s'.nx, [], s'.h⟩ ⟨nx x', [], H x'⟩
      | .ret => Ex .ret s' y'
      | .exit id => Ex (.exit id) s' y'
      | _ => False)
    (done : ∀ x, inv L.length x → Q .normal ⟨nx x, t, H x⟩ (Y x)) (stop : ∀ c s' y', Ex c s' y' → SWy P lo Lo ⟨none, K⟩ n c ⟨s'.nx, t, s'.h⟩ y' Q) : SWy P lo Lo ⟨none, K⟩ n (.rangeFunc gop ps assign body) ⟨nx x0, t, H x0⟩ (Y x0) Q := by
  intro γ Ro B w0 g0 ρ al a w g hpl R p1 p2
  refine wpIn_rangeFunc fun fn _ => ?_
  let C : LoopC P n K ι Ro := ⟨ps, assign, body, en, L, fn, a.tmps, t, inv, H, nx, Y, Ex, hen, hps, hL, R.r.size, fun ρ al ρ' al' => tpin ρ al ρ' al' a.tmps, hown, hex, hbody⟩
  have hv := evT_rep R.r.t gop
  rw [hg] at hv
  simp only [ARep, SRep, LRep, DRep] at hv
  obtain ⟨f, caps, hv, hf, hcaps⟩ := hv
  obtain rfl : f = [] := by
    cases f with
    | nil => rfl
    | cons _ _ => simp only [DsRep] at hf
  let l := w.heap.size + 1
  let W0 := w.alloc (.deferred (some []))
  let W1 := W0.alloc (.loop (C.rcd w.heap.size .ready none))
  have hl1 : W1.heap[l]? = some (.loop (C.rcd w.heap.size .ready none)) := by
    have := World.alloc_heap_new W0 (.loop (C.rcd w.heap.size .ready none)); rwa [World.size_alloc] at this
  have hD1 : W1.heap[w.heap.size]? = some (.deferred (some [])) := (Below.heap_alloc _ _ _ (by simp [W0])).trans (World.alloc_heap_new w _)
  have hk1 : ∀ k, k < w.heap.size → W1.heap[k]? = w.heap[k]? := fun k hk => (Below.heap_alloc _ _ _ (by simp [W0]; omega)).trans (Below.heap_alloc _ _ _ hk)
  have hsz0 : w0.heap.size ≤ w.heap.size := R.r.w.below.size
  have hfit : ∀ k, Ro.dep g k → k < w.heap.size := Ro.fit g w R.J
  have hlS : ¬ B.S l := fun h => by have := R.r.w.size l h; simp only [l] at this; omega
  have HW : WRep ⟨B.S, al.M, B.pl, B.ds, R.r.w.gok⟩ w ρ al (H x0) W1 := by
    refine (R.r.w.rebase).step (.refl _ _) ?_ (fun b k hk hc => hk1 _ (R.r.w.lt hk hc)) (fun b ⟨o, y, hy⟩ => hk1 _ (R.r.w.memLt hy))
    exact ((Keeps.refl _ _).alloc (fun k hk => R.r.w.size k hk) _).alloc (fun k hk => by have := R.r.w.size k hk; simp; omega) _
  have hKp : Kept (Ro.dep g) w W1 := ⟨rfl, rfl, rfl, by simp [W1, W0]; omega, fun k hk => hk1 k (hfit k hk)⟩
  have hJ : C.Jg ⟨B.S, al.M, B.pl, B.ds, R.r.w.gok⟩ w g l w.heap.size ⟨0, x0, ρ, al, none, g⟩ W1 :=
    ⟨hD1, hl1, HW, R.r.al, hown 0 x0 h0, R.r.t, ⟨h0, show Y x0 = (Ro.pos g, Ro.live g) by rw [p1, p2]⟩, Ro.steady _ _ _ R.J hKp, Nat.le_trans R.N hsz0, R.dep, R.ownN, R.mem, R.memN, R.S,
      fun hd => by have := hfit _ hd; simp only [l] at this; omega, fun hd => by have := hfit _ hd; omega, fun k hk => .inl hk, fun k hk => .inl hk⟩
  refine ⟨l, [mark w.heap.size], W1, { target := .fn (.func gf) caps.toArray, args := #[.func (.yield l) #[] #[]] }, W1, gf, (Value.func (.yield l) #[] #[] :: caps).toArray, W1, run_enterLoop_outer _ _ _ _ _, ?_, fun _ _ => trivial, ?_, fun h => by simp [Fw, Fence.wide] at h, ?_⟩
  · simp only [resolve, hv]
    simp [go_sem]
  · simp [invoke, go_sem, it.enter]
  · refine callsIn_fw.2 (Calls.mono (it.sound hd hq al.M W1 caps R.r.w.gok HW.mem hcaps l (Gs ι γ) (C.rounds (B1 := ⟨B.S, al.M, B.pl, B.ds, R.r.w.gok⟩) (w1 := w) (g1 := g) (D := w.heap.size) hpl hlS) ⟨0, x0, ρ, al, none, g⟩ (by show w.heap.size ≤ W1.heap.size; simp [W1, W0]; omega) hJ rfl rfl ?_) ?_)
    · intro b o y hy
      refine ⟨?_, .inl hy⟩
      rintro (⟨c, kk, h1, h2, h3⟩ | h3 | h3)
      · have := HW.memOwn c kk h1 (hown 0 x0 h0 c kk h1) h2 o
        rw [h3, hy] at this; cases this
      · obtain ⟨qq, g1, g2⟩ := isCells_of (HW.mem b o y hy)
        rw [h3, hl1] at g1
        injection g1 with g1
        subst g1
        cases g2
      · exact R.mem b o y hy h3
    · rintro e W' ⟨⟨v, rfl⟩, g', hJ', hlen⟩
      have hJ2 : C.Jg ⟨B.S, al.M, B.pl, B.ds, R.r.w.gok⟩ w g l w.heap.size g' W' := hJ'
      have hstate : ((if g'.out.isNone then LoopState.ready else LoopState.done) : LoopState) ≠ .busy := by split <;> simp
      have hlast := run_endLoop (P := P) hJ2.hl hstate
      have hDl : w.heap.size ≠ l := by simp [l]
      have R4 : YRep Ro n B w0 g0 g'.ρ g'.al ⟨C.nxg g', t, C.hp g'⟩ { a with defers := mark w.heap.size :: a.defers } (W'.putObj l (.loop { C.rcd w.heap.size (if g'.out.isNone then .ready else .done) (g'.out.map (·.1)) with state := .exhausted })) g'.go := by
        have T := hJ2.hw.turn (o' := .loop { C.rcd w.heap.size (if g'.out.isNone then .ready else .done) (g'.out.map (·.1)) with state := .exhausted }) hJ2.hl rfl rfl hlS
        obtain ⟨rs, k1, k2, k3⟩ := R.r.defers
        have kd : ∀ r ∈ rs, (W'.putObj l (.loop { C.rcd w.heap.size (if g'.out.isNone then .ready else .done) (g'.out.map (·.1)) with state := .exhausted })).heap[r]? = some (.deferred (some [])) := fun r hr => T.below.others r _ (k3 r hr).2 rfl
        refine ⟨⟨R.r.size, ⟨w.heap.size :: rs, ?_, ?_, ?_⟩, hJ2.t, R.r.w.unbase T, hJ2.al⟩, hJ2.own, Ro.steady _ _ _ hJ2.Jo (keeps_putObj (S := Ro.dep g'.go) hJ2.hl rfl hJ2.ld).toKept, R.N, hJ2.dep, hJ2.ownN, hJ2.mem, hJ2.memN, hJ2.S, ?_, fun k hk => ?_, fun k hk => ?_⟩
        · refine List.nodup_cons.2 ⟨fun hm => ?_, k1⟩
          have := (Array.getElem?_eq_some_iff.1 (k3 _ hm).2).1
          omega
        · show mark w.heap.size :: a.defers = _
          rw [k2]; rfl
        · intro r hr
          rcases List.mem_cons.1 hr with rfl | hr
          · exact ⟨R.r.w.below.size, (World.putObj_heap_other hDl).trans hJ2.hD⟩
          · exact ⟨(k3 r hr).1, kd r hr⟩
        · intro rs' hrs' r hr hdd
          have hrs2 : mark w.heap.size :: a.defers = rs'.map mark ++ B.ds := hrs'
          obtain rfl := marks_eq (rs := rs') (rs' := w.heap.size :: rs) (by rw [← hrs2, k2]; rfl)
          rcases List.mem_cons.1 hr with rfl | hr
          · exact hJ2.dd hdd
          · rcases hJ2.fol r hdd with h4 | h4 | ⟨o, y, h4⟩
            · exact R.mks rs k2 r hr h4
            · have := (Array.getElem?_eq_some_iff.1 (k3 _ hr).2).1; omega
            · obtain ⟨q, h5, h6⟩ := isCells_of (T.mem _ _ _ h4)
              rw [kd r hr] at h5
              injection h5 with h5
              subst h5
              cases h6
        · rcases hJ2.fol k hk with h4 | h4 | h4
          · rcases R.fol k h4 with h5 | h5 | ⟨o, y, h5⟩
            · exact .inl h5
            · exact .inr (.inl h5)
            · exact .inr (.inr ⟨o, y, T.memOld k o y h5⟩)
          · exact .inr (.inl (by omega))
          · exact .inr (.inr h4)
        · rcases hJ2.folm k hk with h4 | h4
          · exact R.folm k h4
          · exact .inr (by omega)
      refine ⟨_, _, hlast, ?_⟩
      show match (g'.out.map (·.1)) with | none => _ | some c => _
      cases hout : g'.out with
      | none =>
        have hi : g'.i = L.length := hlen (by show g'.out.isNone = true; rw [hout]; rfl)
        have hinv : inv g'.i g'.x ∧ Y g'.x = (Ro.pos g'.go, Ro.live g'.go) := by have := hJ2.here; rw [hout] at this; exact this
        have e1 : C.nxg g' = nx g'.x := by unfold LoopC.nxg; rw [hout]
        have e2 : C.hp g' = H g'.x := by unfold LoopC.hp; rw [hout]
        rw [e1, e2] at R4
        rw [hout] at R4
        refine ⟨_, _, _, _, R4, ?_⟩
        rw [← hinv.2]
        exact done g'.x (hi ▸ hinv.1)
      | some cs =>
        obtain ⟨c, s'⟩ := cs
        have hE : Ex c s' (Ro.pos g'.go, Ro.live g'.go) := by have := hJ2.here; rw [hout] at this; exact this
        have e1 : C.nxg g' = s'.nx := by unfold LoopC.nxg; rw [hout]
        have e2 : C.hp g' = s'.h := by unfold LoopC.hp; rw [hout]
        rw [e1, e2] at R4
        rw [hout] at R4
        exact stop c s' _ hE γ Ro B w0 g0 g'.ρ g'.al _ _ g'.go hpl R4 rfl rfl

theorem aRun_range {P : Program} {ctx : Ctx P} {ro : Cf} {n f : Nat} {r : List Itm} {s : St} {Q : Exit → St → Prop} {x : Operand} {ps : Array Tmp} {as' bo : Code} : aRun P ctx ro n (f + 1) (.c (.rangeFunc x ps as' bo) :: r) s Q = SW P ro n (.rangeFunc x ps as' bo) s (afterQ P ctx ro n f r Q) := by
  simp only [aRun]
  congr 1
  funext e s'
  cases e <;> simp only [afterQ, aEx]
theorem swy_ret {P : Program} {l : Nat} {L : List (List AV)} {ro : Cf} {n : Nat} {s : St} {y : Nat × Bool} {Q : Exit → St → Nat × Bool → Prop} (h : Q .ret s y) : SWy P l L ro n .ret s y Q :=
  yRun_sound (ctx := []) 1 (by rw [yRun_ret]; exact h)
theorem swy_exit {P : Program} {l : Nat} {L : List (List AV)} {ro : Cf} {n : Nat} {s : St} {y : Nat × Bool} {Q : Exit → St → Nat × Bool → Prop} {id : Nat} (h : Q (.exit id) s y) : SWy P l L ro n (.exit id) s y Q :=
  yRun_sound (ctx := []) 1 (by rw [yRun_exit]; exact h)

/-- A range over a function in code that yields nothing. -/
theorem sw_rangeG {gop : Operand} {ps : Array Tmp} {assign body : Code} (en : ι → List AV → St) {L : List (List AV)} {t : Tmps} (inv : Nat → ι → Prop) (H : ι → Heap) (nx : ι → Nat) (Ex : Code → St → Prop) {Q : Exit → St → Prop} {gf : FuncId} (it : It P gf) {ds : List D} {q : Prop}
    (hd : it.dec ds = some (q, L)) (hq : q) (hg : evT t gop = .s (.l (.d (.fn gf [] ds)))) (hen : ∀ x As, As ∈ L → AsgOk P n K assign ⟨nx x, putPs (ps.toList.zip As) t, H x⟩ (en x As)) (hps : ∀ p ∈ ps.toList, p < n) (hL : ∀ As ∈ L, As.length = ps.size)
    (tpin : ∀ ρ al ρ' al' tm, al.M.le al'.M → (∀ j, j < K → al' j ∧ ρ' j = ρ j) → TRep ρ al t tm → TRep ρ' al' t tm)
    (hown : ∀ i x, inv i x → ∀ b k, hget (H x) b = some k → k.own = true) (hex : ∀ c s, Ex c s → ∀ b k, hget s.h b = some k → k.own = true)
    (x0 : ι) (h0 : inv 0 x0)
    (hbody : ∀ (l i : Nat) (x : ι) (As : List AV), inv i x → L[i]? = some As → SW P ⟨some l, K⟩ n body (en x As) fun e s' => match e with
      | .normal => (∃ x', inv (i + 1) x' ∧ Wk ⟨some l, K⟩ ⟨s'.nx, [], s'.h⟩ ⟨nx x', [], H x'⟩) ∧ ownL s'.h = true
      | .ret => Ex .ret s'
      | .exit id => Ex (.exit id) s'
      | _ => False)
    (done : ∀ x, inv L.length x → Q .normal ⟨nx x, t, H x⟩) (stop : ∀ c s', Ex c s' → SWy P 0 [] ⟨none, K⟩ n c ⟨s'.nx, t, s'.h⟩ (0, true) fun e s _ => Q e s) : SW P ⟨none, K⟩ n (.rangeFunc gop ps assign body) ⟨nx x0, t, H x0⟩ Q := by
  refine sw_of_swy (hown 0 x0 h0) (swy_rangeG en inv H nx (fun _ => (0, true)) (fun c s y => Ex c s ∧ y = (0, true)) it hd hq hg hen hps hL tpin hown (fun c s y h => hex c s h.1) x0 h0 (fun l i x As hi hA => ?_) done (fun c s y h => h.2 ▸ stop c s h.1))
  refine swy_of_sw ((hbody l i x As hi hA).mono fun e s' he => ?_)
  cases e with
  | normal => exact ⟨ownL_get he.2, let ⟨x', h1, h2⟩ := he.1; ⟨x', h1, rfl, h2⟩⟩
  | ret => exact ⟨hex _ _ he, he, rfl⟩
  | exit id => exact ⟨hex _ _ he, he, rfl⟩
  | panic _ => exact he.elim
  | goto _ => exact he.elim
  | outgrown => exact he.elim

theorem sw_range {gop : Operand} {ps : Array Tmp} {assign body : Code} {mv : List (Tmp × Tmp)} {L : List (List AV)} {t : Tmps} (inv : Nat → ι → Prop) (H : ι → Heap) (nx : ι → Nat) (Ex : Code → St → Prop) {Q : Exit → St → Prop} {gf : FuncId} (it : It P gf) {ds : List D} {q : Prop}
    (hd : it.dec ds = some (q, L)) (hq : q) (hg : evT t gop = .s (.l (.d (.fn gf [] ds)))) (hmv : movesOf assign = some mv) (hps : ∀ p ∈ ps.toList, p < n) (hms : ∀ x ∈ mv, x.1 < n) (hL : ∀ As ∈ L, As.length = ps.size)
    (tpin : ∀ ρ al ρ' al' tm, al.M.le al'.M → (∀ j, j < K → al' j ∧ ρ' j = ρ j) → TRep ρ al t tm → TRep ρ' al' t tm)
    (hown : ∀ i x, inv i x → ∀ b k, hget (H x) b = some k → k.own = true) (hex : ∀ c s, Ex c s → ∀ b k, hget s.h b = some k → k.own = true)
    (x0 : ι) (h0 : inv 0 x0)
    (hbody : ∀ (l i : Nat) (x : ι) (As : List AV), inv i x → L[i]? = some As → SW P ⟨some l, K⟩ n body ⟨nx x, moveS mv (putPs (ps.toList.zip As) t), H x⟩ fun e s' => match e with
      | .normal => (∃ x', inv (i + 1) x' ∧ Wk ⟨some l, K⟩ ⟨s'.nx, [], s'.h⟩ ⟨nx x', [], H x'⟩) ∧ ownL s'.h = true
      | .ret => Ex .ret s'
      | .exit id => Ex (.exit id) s'
      | _ => False)
    (done : ∀ x, inv L.length x → Q .normal ⟨nx x, t, H x⟩) (stop : ∀ c s', Ex c s' → SWy P 0 [] ⟨none, K⟩ n c ⟨s'.nx, t, s'.h⟩ (0, true) fun e s _ => Q e s) : SW P ⟨none, K⟩ n (.rangeFunc gop ps assign body) ⟨nx x0, t, H x0⟩ Q :=
  sw_rangeG (fun x As => ⟨nx x, moveS mv (putPs (ps.toList.zip As) t), H x⟩) inv H nx Ex it hd hq hg (fun x As _ => asg_moves hmv hms _) hps hL tpin hown hex x0 h0 hbody done stop

end

end Go.Proofs.YtcdbldakjepjiaaDoor
