/- The value logic with lasting memory: ranges over functions, part 4: one round. No program in sight. -/
import Derived.Test.YtcdbldakjepjiaaDoorY3
set_option linter.unusedVariables false
set_option linter.unusedSimpArgs false
namespace Go.Proofs.YtcdbldakjepjiaaDoor
open Go.RowKit
variable {P : Program} {n K : Nat} {ι : Type} {lo : Nat} {Lo : List (List AV)} {γ : Type} {Ro : Rounds P lo Lo γ}

theorem AsRep.len {ρ : Nat → Loc} {al : Al} {xs : List AV} {ys : List Value} (h : AsRep ρ al xs ys) : ys.length = xs.length := h.length

theorem LoopC.round (C : LoopC P n K ι Ro) {B1 : Base} {w1 : World} {g1 : γ} {l D : Nat} (hKB : B1.pl.length = K) (hlS : ¬ B1.S l) {g : Gs ι γ} {W : World} {M : Mem} {As : List AV} {vs : List Value} (h : C.Jg B1 w1 g1 l D g W) (hlive : g.out.isNone = true) (hAs : C.L[g.i]? = some As)
    (hM : Holds M W) (hMm : ∀ b o y, M b o = some y → ¬ C.mt l g b ∧ (B1.M b o = some y ∨ w1.heap.size ≤ b)) (hrep : AsRep ρz (alz M) As vs) :
    YieldAt (Fw ⟨none, 0⟩) 0 P l vs.toArray W fun e W' => ∃ g' : Gs ι γ, C.Jg B1 w1 g1 l D g' W' ∧ g'.i = g.i + 1 ∧ e = .returned (.bool g'.out.isNone) ∧ Keeps (fun k => k < W.heap.size ∧ ¬ C.mt l g k) W W' ∧
      (∀ k, C.dep B1 w1 l D g' k → C.dep B1 w1 l D g k ∨ W.heap.size ≤ k ∨ ∃ o y, M k o = some y) ∧ (∀ k, C.mt l g' k → C.mt l g k ∨ W.heap.size ≤ k) := by
  obtain ⟨gi, gx, gρ, gal, gout, go⟩ := g
  cases gout with
  | some x => cases hlive
  | none =>
  have hl : W.heap[l]? = some (.loop (C.rcd D .ready none)) := h.hl
  have hw : WRep B1 w1 gρ gal (C.H gx) W := h.hw
  have hown : ∀ b k, hget (C.H gx) b = some k → k.own = true := h.own
  have hinv : C.inv gi gx := h.here.1
  have hY : C.Y gx = (Ro.pos go, Ro.live go) := h.here.2
  have hlt : l < W.heap.size := (Array.getElem?_eq_some_iff.1 hl).1
  have hw1 : w1.heap.size ≤ W.heap.size := hw.below.size
  have hDl : D ≠ l := by rintro rfl; rw [h.hD] at hl; cases hl
  have hol : ¬ ownB (C.H gx) gρ l := by
    rintro ⟨b, kk, h1, h2, h3⟩
    obtain ⟨cur, fr, h4, _⟩ := ((hw.blk b kk h1).room (hown b kk h1)).2.2 h2
    rw [h3, hl] at h4; cases h4
  have hmt : ∀ k, C.mt l ⟨gi, gx, gρ, gal, none, go⟩ k ↔ ownB (C.H gx) gρ k ∨ k = l ∨ Ro.mt go k := fun k => Iff.rfl
  have hjd : Ro.J go W := h.Jo
  have hodep : ∀ k, ownB (C.H gx) gρ k → ¬ Ro.dep go k := by rintro k ⟨b, kk, h1, h2, rfl⟩; exact h.dep b kk h1 h2
  -- the memory with the element's
  have hw' : WRep B1 w1 gρ ⟨gal.p, gal.M.join M⟩ (C.H gx) W := by
    refine hw.addM hM (fun b k hk ho hc o => ?_) (fun b o y hy => (hMm b o y hy).2.imp_right fun hle hS => ?_)
    · cases e : M (gρ b).blk o with
      | none => rfl
      | some y => exact ((hMm _ o y e).1 (.inl ⟨b, k, hk, hc, rfl⟩)).elim
    · have := hw.base b hS; omega
  generalize hgal' : (⟨gal.p, gal.M.join M⟩ : Al) = gal' at hw'
  have hMl : gal.M.le gal'.M := by rw [← hgal']; exact Mem.join_left
  have hMr : M.le gal'.M := by rw [← hgal']; exact Mem.join_right hw.mem hM
  have hgok : Gok gal'.M := hw.gok.mono hMl
  have hMs : ∀ {b o y}, gal'.M b o = some y → gal.M b o = some y ∨ M b o = some y := by
    intro b o y hy; rw [← hgal'] at hy; exact Mem.join_some hy
  have hal' : ∀ b, gal' b → b < C.nx gx := by rw [← hgal']; exact h.al
  have E : Ext gρ gρ gal gal' := ⟨fun _ _ => rfl, hMl, fun b hb => by rw [← hgal']; exact hb⟩
  have hAr : AsRep gρ gal' As vs := AsRep.ext (Ext.ofz hMr) hrep
  refine ⟨C.fn, _, C.assign, C.body, run_yield hl (by rw [List.size_toArray, hrep.length]; exact C.hL As (List.mem_of_getElem? hAs)), roundIn_of_wpIn trivial ?_⟩
  show C.assign.wpIn (Fw ⟨some l, K⟩) 0 P _ _ W
  generalize hb : Obj.loop { C.rcd D .ready none with state := .busy } = busy
  have hbc : isDef busy = false := by rw [← hb]; rfl
  have T1 := hw'.rekeep (fun k => k < W.heap.size ∧ ¬ ownB (C.H gx) gρ k ∧ ¬ Ro.mt go k ∧ k ≠ l) [] (fun k hk => hk.1) hown (fun b k hk hc hS => hS.2.1 ⟨b, k, hk, hc, rfl⟩)
  have T2 := T1.turn (o' := busy) hl rfl rfl (fun hS => hS.2.2.2 rfl)
  have hsz : (W.putObj l busy).heap.size = W.heap.size := by simp [World.putObj]
  have T3 := T2.rekeep (fun k => k < W.heap.size ∧ ¬ ownB (C.H gx) gρ k ∧ ¬ Ro.mt go k) [] (fun k hk => by rw [hsz]; exact hk.1) hown (fun b k hk hc hS => hS.2.1 ⟨b, k, hk, hc, rfl⟩)
  have e1 : ((C.ps.zip vs.toArray).foldl (fun (tm : Array Value) (x : Tmp × Value) => tm.setIfInBounds x.1 x.2) C.tm) = (C.ps.toList.zip vs).foldl (fun tm x => tm.setIfInBounds x.1 x.2) C.tm := zip_foldl
  have hz : ((C.ps.toList.zip vs).foldl (fun tm x => tm.setIfInBounds x.1 x.2) C.tm).size = n := put_size2.trans C.size
  have R0 : RepS n ⟨fun k => k < W.heap.size ∧ ¬ ownB (C.H gx) gρ k ∧ ¬ Ro.mt go k, gal'.M, B1.pl, [], hgok⟩ (W.putObj l busy) gρ gal' ⟨C.nx gx, putPs (C.ps.toList.zip As) C.t, C.H gx⟩ { tmps := (C.ps.toList.zip vs).foldl (fun tm x => tm.setIfInBounds x.1 x.2) C.tm, defers := [] } (W.putObj l busy) := by
    refine ⟨hz, Marks.nil _ _ _, putPs_rep (fun x hx => ?_) hAr (h.t.ext E), T3, hal'⟩
    rw [C.size]
    exact C.hps x hx
  obtain ⟨a2, W1, ρ2, al2, ha2, had, R2, hl1, haM, hkW, hblk⟩ := (C.hen gx As (List.mem_of_getElem? hAs)).run (busy := busy) hl R0 rfl rfl hown
  show C.assign.wpIn (Fw ⟨some l, K⟩) 0 P _ { tmps := ((C.ps.zip vs.toArray).foldl (fun (tm : Array Value) (x : Tmp × Value) => tm.setIfInBounds x.1 x.2) C.tm), defers := [] } W
  rw [e1]
  refine ha2 _ ?_
  refine ⟨_, run_beginRound hl1 rfl, ?_⟩
  rw [hb]
  have hkl : Keeps (fun k => Ro.dep go k) W (W1.putObj l busy) := (keeps_putObj hl rfl h.ld).trans (hkW.mono fun k hk => Ro.fit go W hjd k hk)
  have Y2 : YRep Ro n ⟨fun k => k < W.heap.size ∧ ¬ ownB (C.H gx) gρ k ∧ ¬ Ro.mt go k, gal'.M, B1.pl, [], hgok⟩ (W.putObj l busy) go ρ2 al2 (C.en gx As) a2 (W1.putObj l busy) go := by
    refine ⟨R2, fun b k hk => (hblk b k hk).1, Ro.steady _ _ _ hjd hkl.toKept, by rw [hsz]; exact Nat.le_trans h.N hw1, fun b k hk hc hd => ?_, fun b k hk hc => ?_, fun b o y hy => ?_, fun b o y hy => ?_, fun k hk => hk.2.2, fun rs hrs => ?_, fun k hk => .inl hk, fun k hk => .inl hk⟩
    · rcases (hblk b k hk).2 with ⟨k0, h1, h2⟩ | h1
      · rw [h2] at hc hd
        exact h.dep b k0 h1 hc hd
      · have := Ro.fit go W hjd _ hd
        omega
    · rcases (hblk b k hk).2 with ⟨k0, h1, h2⟩ | h1
      · rw [h2] at hc ⊢
        exact h.ownN b k0 h1 hc
      · exact Nat.le_trans h.N (Nat.le_trans hw1 h1)
    · rw [haM] at hy
      rcases hMs hy with h1 | h1
      · exact h.mem b o y h1
      · exact fun hm => (hMm b o y h1).1 (.inr (.inr hm))
    · rw [haM] at hy
      rcases hMs hy with h1 | h1
      · exact h.memN b o y h1
      · rcases (hMm b o y h1).2 with h2 | h2
        · exact h.memN b o y (hw.memOld b o y h2)
        · exact .inr (Nat.le_trans h.N h2)
    · intro r hr
      rw [had] at hrs
      have hrs' : ([] : List Deferred) = rs.map mark ++ [] := hrs
      simp at hrs'
      subst hrs'
      cases hr
  have hgoal : C.body.wpIn (Fw ⟨some l, K⟩) 0 P (roundPost P l fun e W' => ∃ g' : Gs ι γ, C.Jg B1 w1 g1 l D g' W' ∧ g'.i = gi + 1 ∧ e = .returned (.bool g'.out.isNone) ∧ Keeps (fun k => k < W.heap.size ∧ ¬ C.mt l ⟨gi, gx, gρ, gal, none, go⟩ k) W W' ∧
      (∀ k, C.dep B1 w1 l D g' k → C.dep B1 w1 l D ⟨gi, gx, gρ, gal, none, go⟩ k ∨ W.heap.size ≤ k ∨ ∃ o y, M k o = some y) ∧ (∀ k, C.mt l g' k → C.mt l ⟨gi, gx, gρ, gal, none, go⟩ k ∨ W.heap.size ≤ k))
      a2 (W1.putObj l busy) := by
    refine wpIn_mono (C.hbody l gi gx As hinv hAs γ Ro ⟨fun k => k < W.heap.size ∧ ¬ ownB (C.H gx) gρ k ∧ ¬ Ro.mt go k, gal'.M, B1.pl, [], hgok⟩ _ go ρ2 al2 _ _ go hKB Y2 (by rw [hY]) (by rw [hY])) ?_
    rintro e a3 W3 ⟨ρ3, al3, s3, go3, R3, q⟩
    have hl3 : W3.heap[l]? = some busy := (R3.r.w.below.block l ⟨hlt, hol, fun hm => h.ld (Ro.sub go l hm)⟩).trans (putObj_same hl)
    have hD3 : W3.heap[D]? = some (.deferred (some [])) := R3.r.w.below.others D _ ((World.putObj_heap_other hDl).trans h.hD) rfl
    have fin : ∀ (g' : Gs ι γ) (st : LoopState) (a' : Act), g'.i = gi + 1 → st = (if g'.out.isNone then .ready else .done) →
        YRep Ro n ⟨fun k => k < W.heap.size ∧ ¬ ownB (C.H gx) gρ k ∧ ¬ Ro.mt go k, gal'.M, B1.pl, [], hgok⟩ (W.putObj l busy) go g'.ρ g'.al ⟨C.nxg g', [], C.hp g'⟩ a' W3 g'.go →
        (match g'.out with | none => C.inv g'.i g'.x ∧ C.Y g'.x = (Ro.pos g'.go, Ro.live g'.go) | some (c, s) => C.Ex c s (Ro.pos g'.go, Ro.live g'.go)) →
        C.Jg B1 w1 g1 l D g' (W3.putObj l (.loop (C.rcd D st (g'.out.map (·.1))))) ∧ Keeps (fun k => k < W.heap.size ∧ ¬ C.mt l ⟨gi, gx, gρ, gal, none, go⟩ k) W (W3.putObj l (.loop (C.rcd D st (g'.out.map (·.1))))) ∧
          (∀ k, C.dep B1 w1 l D g' k → C.dep B1 w1 l D ⟨gi, gx, gρ, gal, none, go⟩ k ∨ W.heap.size ≤ k ∨ ∃ o y, M k o = some y) ∧ (∀ k, C.mt l g' k → C.mt l ⟨gi, gx, gρ, gal, none, go⟩ k ∨ W.heap.size ≤ k) := by
      intro g' st a' hi hst R4 hh
      have WR := R4.r.w
      have ho : ∀ b k, hget (C.hp g') b = some k → k.own = true := R4.own
      have A1 := T2.rekept WR (fun k hk => ⟨hk.1, hk.2.1, hk.2.2.1⟩) ho
      have hbz : busy.isCells = false := by rw [← hb]; rfl
      have A2 := A1.turn (o' := .loop (C.rcd D st (g'.out.map (·.1)))) hl3 hbz hbc (fun hS => hS.2.2.2 rfl)
      have hBs : ∀ k, B1.S k → k < W.heap.size ∧ ¬ ownB (C.H gx) gρ k ∧ ¬ Ro.mt go k ∧ k ≠ l := fun k hk => ⟨hw.size k hk, fun ⟨b, kk, h1, h2, h3⟩ => hw.own b kk h1 (hown b kk h1) h2 (h3 ▸ hk), h.S k hk, by rintro rfl; exact hlS hk⟩
      have A3 := hw'.rekept A2 hBs ho
      have hin : ∀ k, ¬ (k < W.heap.size ∧ ¬ ownB (C.H gx) gρ k ∧ ¬ Ro.mt go k ∧ k ≠ l) → (ownB (C.H gx) gρ k ∨ k = l ∨ Ro.mt go k) ∨ W.heap.size ≤ k := by
        intro k hk
        by_cases h1 : W.heap.size ≤ k
        · exact .inr h1
        · by_cases h2 : ownB (C.H gx) gρ k
          · exact .inl (.inl h2)
          · by_cases h3 : k = l
            · exact .inl (.inr (.inl h3))
            · by_cases h4 : Ro.mt go k
              · exact .inl (.inr (.inr h4))
              · exact (hk ⟨by omega, h2, h4, h3⟩).elim
      have hob : ∀ k, ownB (C.hp g') g'.ρ k → (ownB (C.H gx) gρ k ∨ k = l ∨ Ro.mt go k) ∨ W.heap.size ≤ k := by
        rintro k ⟨b, kk, h1, h2, rfl⟩
        exact hin _ (A2.own b kk h1 (ho b kk h1) h2)
      have hmd : ∀ k, (ownB (C.H gx) gρ k ∨ k = l ∨ Ro.mt go k) → C.dep B1 w1 l D ⟨gi, gx, gρ, gal, none, go⟩ k := by
        rintro k (h1 | h1 | h1)
        · exact .inl h1
        · exact .inr (.inl h1)
        · exact .inr (.inr (.inr (.inr (.inr (.inr (Ro.sub go k h1))))))
      have nocell : ∀ (k : Nat) (q : Obj), W3.heap[k]? = some q → q.isCells = false → ∀ o y, g'.al.M k o = some y → False := by
        intro k q h1 h2 o y hy
        obtain ⟨q', h3, h4⟩ := isCells_of (WR.mem k o y hy)
        rw [h1] at h3
        injection h3 with h3
        subst h3
        rw [h2] at h4; cases h4
      have hdep' : ∀ k, Ro.dep g'.go k → Ro.dep go k ∨ W.heap.size ≤ k ∨ ∃ o y, g'.al.M k o = some y := fun k hk => by
        have := R4.fol k hk
        rw [hsz] at this
        exact this
      have hld' : ¬ Ro.dep g'.go l := fun hd => by
        rcases hdep' l hd with h1 | h1 | ⟨o, y, h1⟩
        · exact h.ld h1
        · omega
        · exact nocell l busy hl3 hbz o y h1
      have hdd' : ¬ Ro.dep g'.go D := fun hd => by
        rcases hdep' D hd with h1 | h1 | ⟨o, y, h1⟩
        · exact h.dd h1
        · have := (Array.getElem?_eq_some_iff.1 h.hD).1; omega
        · exact nocell D _ hD3 rfl o y h1
      have hmt' : ∀ k, Ro.mt g'.go k → Ro.mt go k ∨ W.heap.size ≤ k := fun k hk => by
        have := R4.folm k hk
        rw [hsz] at this
        exact this
      have hmem' : ∀ k o y, g'.al.M k o = some y → C.dep B1 w1 l D ⟨gi, gx, gρ, gal, none, go⟩ k ∨ W.heap.size ≤ k ∨ ∃ o y, M k o = some y := by
        intro k o y hy
        rcases A2.memNew k o y hy with h2 | h2
        · rcases hMs h2 with h3 | h3
          · exact .inl (.inr (.inr (.inr (.inr (.inl ⟨o, y, h3⟩)))))
          · exact .inr (.inr ⟨o, y, h3⟩)
        · rcases hin k h2 with h3 | h3
          · exact .inl (hmd k h3)
          · exact .inr (.inl h3)
      refine ⟨⟨(World.putObj_heap_other hDl).trans hD3, by rw [hst]; exact putObj_same hl3, A3, R4.r.al, ho, ?_, hh, Ro.steady _ _ _ R4.J (keeps_putObj (S := Ro.dep g'.go) hl3 hbc hld').toKept, h.N, R4.dep, R4.ownN, R4.mem, R4.memN, fun k hS hm => ?_, hld', hdd', fun k hk => ?_, fun k hk => ?_⟩, ?_, ?_, ?_⟩
      · refine C.tst gρ gal g'.ρ g'.al (Mem.le_trans hMl A2.memOld) (fun j hj => ?_) h.t
        have hpj : B1.pl[j]? = some (B1.pl[j]'(by omega)) := List.getElem?_eq_getElem _
        obtain ⟨p1, p2⟩ := A2.pins j _ hpj
        obtain ⟨_, p3⟩ := hw.pins j _ hpj
        exact ⟨p1, p2.trans p3.symm⟩
      · rcases hmt' k hm with h1 | h1
        · exact h.S k hS h1
        · have := hw.size k hS; omega
      · rcases hdep' k hk with h1 | h1 | h1
        · rcases h.fol k h1 with h2 | h2 | ⟨o, y, h2⟩
          · exact .inl h2
          · exact .inr (.inl h2)
          · exact .inr (.inr ⟨o, y, A2.memOld k o y (hMl k o y h2)⟩)
        · exact .inr (.inl (by omega))
        · exact .inr (.inr h1)
      · rcases hmt' k hk with h1 | h1
        · exact h.folm k h1
        · exact .inr (by omega)
      · refine (keeps_putObj hl rfl fun hS => hS.2 (.inr (.inl rfl))).trans (((WR.below).mono fun k hk => ⟨hk.1, fun ho => hk.2 (.inl ho), fun hm => hk.2 (.inr (.inr hm))⟩).trans (keeps_putObj hl3 hbc fun hS => hS.2 (.inr (.inl rfl))))
      · rintro k (h1 | h1 | h1 | h1 | ⟨o, y, hy⟩ | h1 | h1)
        · rcases hob k h1 with h2 | h2
          · exact .inl (hmd k h2)
          · exact .inr (.inl h2)
        · exact .inl (.inr (.inl h1))
        · exact .inl (.inr (.inr (.inl h1)))
        · exact .inl (.inr (.inr (.inr (.inl h1))))
        · exact hmem' k o y hy
        · exact .inl (.inr (.inr (.inr (.inr (.inr (.inl h1))))))
        · rcases hdep' k h1 with h2 | h2 | ⟨o, y, h2⟩
          · exact .inl (.inr (.inr (.inr (.inr (.inr (.inr h2))))))
          · exact .inr (.inl h2)
          · exact hmem' k o y h2
      · rintro k (h1 | h1 | h1)
        · exact hob k h1
        · exact .inl (.inr (.inl h1))
        · exact (hmt' k h1).imp_left fun h => .inr (.inr h)
    have hl3' : W3.heap[l]? = some (.loop { C.rcd D .ready none with state := .busy }) := by rw [hl3, ← hb]
    have drop : ∀ {ρ4 al4 s4 a4}, YRep Ro n ⟨fun k => k < W.heap.size ∧ ¬ ownB (C.H gx) gρ k ∧ ¬ Ro.mt go k, gal'.M, B1.pl, [], hgok⟩ (W.putObj l busy) go ρ4 al4 s4 a4 W3 go3 → YRep Ro n ⟨fun k => k < W.heap.size ∧ ¬ ownB (C.H gx) gρ k ∧ ¬ Ro.mt go k, gal'.M, B1.pl, [], hgok⟩ (W.putObj l busy) go ρ4 al4 ⟨s4.nx, [], s4.h⟩ a4 W3 go3 :=
      fun H => ⟨⟨H.r.size, H.r.defers, fun k => trivial, H.r.w, H.r.al⟩, H.own, H.J, H.N, H.dep, H.ownN, H.mem, H.memN, H.S, H.mks, H.fol, H.folm⟩
    cases e with
    | normal =>
      obtain ⟨x', hx', hy', hwk⟩ := q
      obtain ⟨ρ4, al4, R4⟩ := (drop R3).wk hKB hwk (C.hown _ _ hx')
      obtain ⟨f1, f2, f3, f4⟩ := fin ⟨gi + 1, x', ρ4, al4, none, go3⟩ .ready _ rfl rfl R4 ⟨hx', hy'⟩
      exact ⟨_, _, run_endRound none hl3', ⟨gi + 1, x', ρ4, al4, none, go3⟩, f1, rfl, rfl, f2, f3, f4⟩
    | ret =>
      obtain ⟨f1, f2, f3, f4⟩ := fin ⟨gi + 1, gx, ρ3, al3, some (.ret, s3), go3⟩ .done _ rfl rfl (drop R3) q
      exact ⟨_, _, run_endRound (some .ret) hl3', ⟨gi + 1, gx, ρ3, al3, some (.ret, s3), go3⟩, f1, rfl, rfl, f2, f3, f4⟩
    | exit id =>
      obtain ⟨f1, f2, f3, f4⟩ := fin ⟨gi + 1, gx, ρ3, al3, some (.exit id, s3), go3⟩ .done _ rfl rfl (drop R3) q
      exact ⟨_, _, run_endRound (some (.exit id)) hl3', ⟨gi + 1, gx, ρ3, al3, some (.exit id, s3), go3⟩, f1, rfl, rfl, f2, f3, f4⟩
    | panic _ => exact q.elim
    | goto _ => exact q.elim
    | outgrown => exact q.elim
  exact hgoal

end Go.Proofs.YtcdbldakjepjiaaDoor
