/- One map of the call, made and stored into: the walk with it. -/
import Derived.Test.YtkjkogmnijfanaaDoorMp
import Derived.MapKept
set_option linter.unusedVariables false
set_option linter.unusedSimpArgs false
namespace Go.Proofs.YtkjkogmnijfanaaDoor
open Go.RowKit

/-- What the walk began with. -/
structure Fr where
  B : Base
  w : World
  al : Al

theorem WRep.dss {B : Base} {w0 : World} {ρ : Nat → Loc} {al : Al} {h : Heap} {w : World} (H : WRep B w0 ρ al h w) (ds : List Deferred) : WRep ⟨B.S, B.M, B.pl, ds, B.gok⟩ w0 ρ al h w :=
  ⟨H.base, H.below, H.blk, H.own, H.old, H.apart, H.mem, H.memOwn, H.memNew, H.memOld, H.pins⟩

structure XRc (P : Program) (F : Fr) (X : MapX) (n : Nat) (B : Base) (ρ : Nat → Loc) (al : Al) (s : St) (a : Act) (w : World) : Prop where
  pl : B.pl.length = 0
  ok : XOk P X B w
  rep : RepS n B w ρ al s a w
  old : ∀ k, F.B.S k → B.S k ∧ k ≠ X.r
  keeps : Keeps F.B.S F.w w
  marks : Marks F.w.heap.size F.B.ds a.defers w
  mem : F.al.M.le B.M
  ds : B.ds = a.defers
def XR (P : Program) (F : Fr) (X : MapX) (n : Nat) (s : St) (a : Act) (w : World) : Prop := ∃ B ρ al, XRc P F X n B ρ al s a w

theorem Marks.join {N N' : Nat} {d0 d1 ds : List Deferred} {w w' : World} (h : Marks N d0 d1 w) (k : Marks N' d1 ds w') (hk : KeepsD w w') (hN' : w.heap.size ≤ N') (hN : N ≤ N') : Marks N d0 ds w' := by
  obtain ⟨rs, h1, rfl, h3⟩ := h
  obtain ⟨rs', k1, rfl, k3⟩ := k
  have hlt : ∀ r ∈ rs, r < w.heap.size := fun r hr => (Array.getElem?_eq_some_iff.1 (h3 r hr).2).1
  refine ⟨rs' ++ rs, List.nodup_append.2 ⟨k1, h1, fun x hx y hy e => ?_⟩, by simp, fun r hr => ?_⟩
  · have := hlt y hy
    have := (k3 x hx).1
    omega
  · rcases List.mem_append.1 hr with hr | hr
    · exact ⟨Nat.le_trans hN (k3 r hr).1, (k3 r hr).2⟩
    · exact ⟨(h3 r hr).1, hk.same r _ (h3 r hr).2 rfl⟩

section
variable {P : Program} {F : Fr} {X : MapX} {n : Nat} {B : Base} {ρ ρ' : Nat → Loc} {al al' : Al} {s s' : St} {a a' : Act} {w w' : World}

theorem XRc.next (H : XRc P F X n B ρ al s a w) (H' : RepS n B w ρ' al' s' a' w') : XR P F X n s' a' w' := by
  refine ⟨⟨B.S, al'.M, B.pl, a'.defers, H'.w.gok⟩, ρ', al', H.pl, ⟨H.ok.1, H.ok.2.1, ?_⟩, ⟨H'.size, Marks.nil _ _ _, H'.t, H'.w.rebase.dss _, H'.al⟩, H.old, H.keeps.trans (H'.w.below.mono fun k hk => (H.old k hk).1), ?_, Mem.le_trans H.mem H'.w.memOld, rfl⟩
  · obtain ⟨es, clk, h1, h2⟩ := H.ok.2.2
    exact ⟨es, clk, by rw [H'.w.below.block _ H.ok.1]; exact h1, h2⟩
  · refine H.marks.join (H.ds ▸ H'.defers) H'.w.below.kept (Nat.le_refl _) H.keeps.size

theorem XR.wk (H : XR P F X n s a w) (hw : Wk ⟨none, 0⟩ s s') : XR P F X n s' a w := by
  obtain ⟨B, ρ, al, H⟩ := H
  obtain ⟨ρ', al', H'⟩ := hw n B w ρ al a w H.pl H.rep
  exact H.next H'
end

/-- A walk in which the map may get more keys. -/
def XW (P : Program) (F : Fr) (mt : TypeId) (r : Nat) (n : Nat) (c : Code) (ks : List ByteArray) (s : St) (Q : Exit → List ByteArray → St → Prop) : Prop :=
  ∀ a w, XR P F ⟨mt, r, ks⟩ n s a w → c.wpIn (Fw ⟨none, 0⟩) 0 P (fun e a' w' => ∃ ks' s', XR P F ⟨mt, r, ks'⟩ n s' a' w' ∧ Q e ks' s') a w

def thenX (K : List ByteArray → St → Prop) (Q : Exit → List ByteArray → St → Prop) : Exit → List ByteArray → St → Prop
  | .normal, ks, s => K ks s
  | e, ks, s => Q e ks s
def blockX (id : Nat) (Q : Exit → List ByteArray → St → Prop) : Exit → List ByteArray → St → Prop
  | .exit j, ks, s => if j = id then Q .normal ks s else Q (.exit j) ks s
  | e, ks, s => Q e ks s

section
variable {P : Program} {F : Fr} {mt : TypeId} {r n : Nat} {ks : List ByteArray} {s : St} {Q Q' : Exit → List ByteArray → St → Prop}

theorem XW.mono {c : Code} (h : XW P F mt r n c ks s Q) (hq : ∀ e ks s, Q e ks s → Q' e ks s) : XW P F mt r n c ks s Q' :=
  fun a w H => wpIn_mono (h a w H) fun _ _ _ ⟨ks', s', H', q⟩ => ⟨ks', s', H', hq _ _ _ q⟩

theorem xw_seq {x y : Code} (h : XW P F mt r n x ks s (thenX (fun ks' s' => XW P F mt r n y ks' s' Q) Q)) : XW P F mt r n (.seq x y) ks s Q := by
  intro a w H
  refine wpIn_seq (wpIn_mono (h a w H) ?_)
  rintro e a' w' ⟨ks', s', H', q⟩
  cases e with
  | normal => exact q a' w' H'
  | _ => exact ⟨ks', s', H', q⟩

theorem xw_block {id : Nat} {c : Code} (h : XW P F mt r n c ks s (blockX id Q)) : XW P F mt r n (.block id c) ks s Q := by
  intro a w H
  refine wpIn_block (wpIn_mono (h a w H) ?_)
  rintro e a' w' ⟨ks', s', H', q⟩
  cases e with
  | exit j =>
    simp only [blockX] at q
    simp only [Exit.inBlock]
    split
    · rename_i hj
      rw [if_pos hj] at q
      exact ⟨ks', s', H', q⟩
    · rename_i hj
      rw [if_neg hj] at q
      exact ⟨ks', s', H', q⟩
  | _ => exact ⟨ks', s', H', q⟩

theorem XW.wk {c : Code} {s' : St} (h : XW P F mt r n c ks s' Q) (hw : Wk ⟨none, 0⟩ s s') : XW P F mt r n c ks s Q := fun a w H => h a w (H.wk hw)

theorem xw_sx {c : Code} {Q : Exit → St → Prop} (h : SX P ⟨mt, r, ks⟩ ⟨none, 0⟩ n c s Q) : XW P F mt r n c ks s (fun e ks' s' => ks' = ks ∧ Q e s') := by
  rintro a w ⟨B, ρ, al, H⟩
  refine wpIn_mono (h B w ρ al a w H.pl H.ok H.rep) ?_
  rintro e a' w' ⟨ρ', al', s', H', q⟩
  exact ⟨ks, s', H.next H', rfl, q⟩
theorem xw_sw {c : Code} {Q : Exit → St → Prop} (h : SW P ⟨none, 0⟩ n c s Q) : XW P F mt r n c ks s (fun e ks' s' => ks' = ks ∧ Q e s') :=
  xw_sx fun B w0 ρ al a w hpl _ H => h B w0 ρ al a w hpl H

theorem xw_loop {ι : Type} {c : Code} (inv : ι → Prop) (K : ι → List ByteArray) (I : ι → St) (m : ι → Nat) (i0 : ι) (h0 : inv i0) (hk : ks = K i0) (start : Wk ⟨none, 0⟩ s (I i0))
    (round : ∀ i, inv i → XW P F mt r n c (K i) (I i) (thenX (fun ks' s' => ∃ j, inv j ∧ m j < m i ∧ ks' = K j ∧ Wk ⟨none, 0⟩ s' (I j)) Q)) : XW P F mt r n (.loop c) ks s Q := by
  subst hk
  intro a w H
  classical
  let J : Act → World → Prop := fun a w => ∃ i, inv i ∧ XR P F ⟨mt, r, K i⟩ n (I i) a w
  let μ : Act → World → Nat := fun a w => if hq : ∃ k, ∃ i, m i = k ∧ inv i ∧ XR P F ⟨mt, r, K i⟩ n (I i) a w then (exists_least hq).choose else 0
  refine wpIn_loop J μ ⟨i0, h0, H.wk start⟩ ?_
  rintro a1 w1 ⟨i1, hi1, H1⟩
  have hq : ∃ k, ∃ i, m i = k ∧ inv i ∧ XR P F ⟨mt, r, K i⟩ n (I i) a1 w1 := ⟨_, i1, rfl, hi1, H1⟩
  have hμ : μ a1 w1 = (exists_least hq).choose := dif_pos hq
  obtain ⟨i, hmi, hii, Hi⟩ := (exists_least hq).choose_spec.1
  refine wpIn_mono (round i hii a1 w1 Hi) ?_
  rintro e a2 w2 ⟨ks2, s2, H2, q⟩
  cases e with
  | normal =>
    obtain ⟨j, hij, hj, rfl, hwk⟩ := q
    have H3 := H2.wk hwk
    refine ⟨⟨j, hij, H3⟩, ?_⟩
    have hq2 : ∃ k, ∃ i, m i = k ∧ inv i ∧ XR P F ⟨mt, r, K i⟩ n (I i) a2 w2 := ⟨_, j, rfl, hij, H3⟩
    have h1 : μ a2 w2 = (exists_least hq2).choose := dif_pos hq2
    have h2 : (exists_least hq2).choose ≤ m j := (exists_least hq2).choose_spec.2 _ ⟨j, rfl, hij, H3⟩
    rw [h1, hμ, ← hmi]
    omega
  | _ => exact ⟨ks2, s2, H2, q⟩
end

/-! ### Regions of operations -/
section
variable {P : Program} {ctx : Ctx P} {F : Fr} {X : MapX} {n : Nat} {s : St} {ops : Array Oper} {o : Oper} {rest : List Oper} {Q : Exit → Act → World → Prop}

theorem xl_op (hg : o.guard = none) {R : Res} (hs : aOp P ctx s.nx o.op (evT s.t) s.h = some R) (hob : R.ob) (hd : dstOk n o.dst = true)
    (next : ∀ a w, XR P F X n ⟨s.nx + 16, putT s.t o.dst R.r, R.E ++ s.h⟩ a w → wpListIn (Fw ⟨none, 0⟩) 0 P ops Q rest a w) :
    ∀ a w, XR P F X n s a w → wpListIn (Fw ⟨none, 0⟩) 0 P ops Q (o :: rest) a w := by
  rintro a w ⟨B, ρ, al, H⟩
  unfold wpListIn
  rw [if_pos (by simp [Region.wanted, hg])]
  exact aOp_wp H.rep hs hob hd fun ρ' al' a' w' H' => next a' w' (H.next H')

def UpdOk (P : Program) (mt : TypeId) : Prop := ∀ (r : Nat) (ks : List ByteArray) (w : World) (k : ByteArray), (ks.any fun x => k == x) = false → ∀ (es : Array MapEntry) (clk : Nat), w.heap[r]? = some (.map es clk) → es.toList.map (fun e => (e.key, e.val)) = kvs ks →
  (Instr.mapUpdate mt (.map (some r)) (.string k) (.bool true)).run P w = .ok () { w with heap := w.heap.setIfInBounds r (.map (es.push { key := .string k, val := .bool true, born := clk }) (clk + 1)) }

theorem cell_map {w : World} {r : Nat} {es : Array MapEntry} {clk : Nat} (h : w.heap[r]? = some (.map es clk)) (o : Nat) : w.cell? ⟨r, o, none⟩ = none := by
  simp [World.cell?, h]
theorem cell_setMap {w : World} {r b : Nat} (hb : b ≠ r) (o : Obj) (i : Nat) : ({ w with heap := w.heap.setIfInBounds r o } : World).cell? ⟨b, i, none⟩ = w.cell? ⟨b, i, none⟩ := by
  simp [World.cell?, Array.getElem?_setIfInBounds, Ne.symm hb]

theorem XRc.store {B : Base} {ρ : Nat → Loc} {al : Al} {a : Act} {w : World} {k : ByteArray} (H : XRc P F X n B ρ al s a w) (hown : ∀ b q, hget s.h b = some q → q.own = true) {es : Array MapEntry} {clk : Nat} (h1 : w.heap[X.r]? = some (.map es clk)) (h2 : es.toList.map (fun e => (e.key, e.val)) = kvs X.ks) :
    XR P F ⟨X.mt, X.r, X.ks ++ [k]⟩ n s a { w with heap := w.heap.setIfInBounds X.r (.map (es.push { key := .string k, val := .bool true, born := clk }) (clk + 1)) } := by
  have hlt : X.r < w.heap.size := (Array.getElem?_eq_some_iff.1 h1).1
  have hne : ∀ b, b ≠ X.r → ∀ o : Obj, (w.heap.setIfInBounds X.r o)[b]? = w.heap[b]? := fun b hb o => by simp [Array.getElem?_setIfInBounds, Ne.symm hb]
  refine ⟨B, ρ, al, H.pl, ⟨H.ok.1, H.ok.2.1, es.push { key := .string k, val := .bool true, born := clk }, clk + 1, by simp [Array.getElem?_setIfInBounds, hlt], ?_⟩, ⟨H.rep.size, by rw [H.ds]; exact Marks.nil _ _ _, H.rep.t, ?_, H.rep.al⟩, H.old, H.keeps.trans ⟨rfl, rfl, rfl, by simp, fun b hb => hne b (H.old b hb).2 _, ?_⟩, H.marks.keep ⟨by simp, ?_⟩, H.mem, H.ds⟩
  · simp [h2, kvs]
  · have W := H.rep.w
    refine ⟨fun b hb => by simpa using W.base b hb, .refl _ _, fun b q hq => ?_, W.own, W.old, W.apart, fun b o y hy => ?_, W.memOwn, W.memNew, W.memOld, W.pins⟩
    · have Hb := W.blk b q hq
      have hq1 := hown b q hq
      by_cases hc : (ρ b).cap = 0
      · have he : q.els = [] := by have := Hb.cap; rw [hc] at this; exact List.length_eq_zero_iff.1 (by omega)
        exact ⟨Hb.here, Hb.own, Hb.sz, Hb.len, Hb.cap, fun i j x hx => by simp [cellAt, he] at hx, fun ho => ⟨(Hb.room ho).1, (Hb.room ho).2.1, fun h => (h hc).elim⟩⟩
      · have hr : (ρ b).blk ≠ X.r := fun e => W.own b q hq hq1 hc (e ▸ H.ok.1)
        refine ⟨Hb.here, Hb.own, Hb.sz, Hb.len, Hb.cap, fun i j x hx => ?_, fun ho => ⟨(Hb.room ho).1, (Hb.room ho).2.1, fun h => ?_⟩⟩
        · rw [cell_setMap hr]
          exact Hb.cells i j x hx
        · obtain ⟨cur, fr, g1, g2⟩ := (Hb.room ho).2.2 h
          exact ⟨cur, fr, by rw [hne _ hr]; exact g1, g2⟩
    · by_cases hb : b = X.r
      · subst hb
        have := W.mem _ _ _ hy
        rw [cell_map h1] at this
        cases this
      · rw [cell_setMap hb]
        exact W.mem b o y hy
  · intro b o ho hd
    by_cases hb : b = X.r
    · subst hb
      rw [h1] at ho
      injection ho with ho
      subst ho
      cases hd
    · exact (hne b hb _).trans ho
  · intro b o ho hd
    by_cases hb : b = X.r
    · subst hb
      rw [h1] at ho
      injection ho with ho
      subst ho
      cases hd
    · exact (hne b hb _).trans ho

theorem xl_upd (hU : UpdOk P X.mt) (hg : o.guard = none) (hdst : o.dst = none) {m kk v : Operand} (ho : o.op = .mapUpdate X.mt m kk v) (hm : evT s.t m = .s (.l (.v (.map (some X.r))))) {k : ByteArray} (hk : evT s.t kk = .s (.l (.v (.string k)))) (hv : evT s.t v = .s (.l (.v (.bool true))))
    (hnew : (X.ks.any fun x => k == x) = false) (hown : ∀ b q, hget s.h b = some q → q.own = true)
    (next : ∀ a w, XR P F ⟨X.mt, X.r, X.ks ++ [k]⟩ n s a w → wpListIn (Fw ⟨none, 0⟩) 0 P ops Q rest a w) :
    ∀ a w, XR P F X n s a w → wpListIn (Fw ⟨none, 0⟩) 0 P ops Q (o :: rest) a w := by
  rintro a w ⟨B, ρ, al, H⟩
  unfold wpListIn
  rw [if_pos (by simp [Region.wanted, hg])]
  have vm : a.eval m = .map (some X.r) := by have := evT_rep H.rep.t m; rw [hm] at this; exact this
  have vk : a.eval kk = .string k := by have := evT_rep H.rep.t kk; rw [hk] at this; exact this
  have vv : a.eval v = .bool true := by have := evT_rep H.rep.t v; rw [hv] at this; exact this
  refine ⟨fun _ _ => trivial, ?_⟩
  rw [Oper.semAt_eq _ _ _ (by rw [ho]; intro c h; cases h)]
  obtain ⟨es, clk, h1, h2⟩ := H.ok.2.2
  have hrun := hU X.r X.ks w k hnew es clk h1 h2
  have hsem : ∃ nx, (execOp a.eval o).run P w = .ok nx { w with heap := w.heap.setIfInBounds X.r (.map (es.push { key := .string k, val := .bool true, born := clk }) (clk + 1)) } ∧ (nx = .skip ∨ ∃ v, nx = .value v) := by
    simp only [execOp, ho, vm, vk, vv, Sem.run_bind, hrun]
    exact ⟨_, rfl, by first | exact .inl rfl | exact .inr ⟨_, rfl⟩⟩
  obtain ⟨nx, hsem, hnx⟩ := hsem
  rw [hsem]
  have hput : ∀ v, a.put o.dst v = a := fun v => by rw [hdst]; rfl
  have fin := next a _ (H.store (k := k) hown h1 h2)
  rcases hnx with rfl | ⟨v, rfl⟩
  · show wpListIn _ _ _ _ _ _ (a.put o.dst undef) _
    rw [hput]
    exact fin
  · show wpListIn _ _ _ _ _ _ (a.put o.dst v) _
    rw [hput]
    exact fin
end

/-! ### The map is made; the end -/
section
variable {P : Program} {n : Nat} {s : St} {Q : Exit → St → Prop}

theorem sw_makeMap {id : Nat} {oM oA : Oper} {rest : Code} {mt : TypeId} {d d2 : Tmp} (hL : LookOk P mt) (hM : oM.op = .makeMap mt none) (hA : oA.op = .assign (.tmp d)) (gM : oM.guard = none) (gA : oA.guard = none) (dM : oM.dst = some d) (dA : oA.dst = some d2) (hd : d < n) (hd2 : d2 < n) (hown : s.h = [])
    (h : ∀ F r, XW P F mt r n rest [] ⟨s.nx + 16, (d2, .s (.l (.v (.map (some r))))) :: (d, .s (.l (.v (.map (some r))))) :: s.t, s.h⟩ (fun e _ s' => ∃ nx j v, Wk ⟨none, 0⟩ s' ⟨nx, [(j, .s (.l (.v v)))], []⟩ ∧ Q e ⟨nx, [(j, .s (.l (.v v)))], []⟩)) :
    SW P ⟨none, 0⟩ n (.seq (.region id #[oM, oA] false) rest) s Q := by
  intro B0 w00 ρ0 al0 a w hpl H
  have hpl0 : B0.pl = [] := List.length_eq_zero_iff.1 hpl
  -- what the end gives
  have done : ∀ (e : Exit) (a' : Act) (w' : World), (∃ ks' s', XR P ⟨B0, w00, al0⟩ ⟨mt, w.heap.size, ks'⟩ n s' a' w' ∧ ∃ nx j v, Wk ⟨none, 0⟩ s' ⟨nx, [(j, .s (.l (.v v)))], []⟩ ∧ Q e ⟨nx, [(j, .s (.l (.v v)))], []⟩) → ∃ ρ' al' s', RepS n B0 w00 ρ' al' s' a' w' ∧ Q e s' := by
    rintro e a' w' ⟨ks', s', HX, nx, j, v, hwk, q⟩
    obtain ⟨B, ρ, al, X⟩ := HX.wk hwk
    refine ⟨ρ, ⟨fun _ => False, al0.M⟩, _, ⟨X.rep.size, X.marks, fun k => ?_, ?_, fun _ h => h.elim⟩, q⟩
    · have := X.rep.t k
      simp only [tget] at this ⊢
      split at this
      · rename_i hk
        rw [if_pos hk]
        exact this
      · rename_i hk
        rw [if_neg hk]
        trivial
    · exact ⟨H.w.base, X.keeps, fun b k hk => by simp [hget] at hk, fun b k hk => by simp [hget] at hk, fun b k hk => by simp [hget] at hk, fun b c k l hk => by simp [hget] at hk, fun b o y hy => X.rep.w.mem b o y (X.rep.w.memOld b o y (X.mem b o y hy)), fun b k hk => by simp [hget] at hk, H.w.memNew, H.w.memOld, fun j l hl => by rw [hpl0] at hl; cases hl⟩
  refine wpIn_seq (wpIn_mono (Q := Exit.then (fun a' w' => XR P ⟨B0, w00, al0⟩ ⟨mt, w.heap.size, []⟩ n ⟨s.nx + 16, (d2, .s (.l (.v (.map (some w.heap.size))))) :: (d, .s (.l (.v (.map (some w.heap.size))))) :: s.t, s.h⟩ a' w') fun _ _ _ => False) (wpIn_region_list ?_) ?_)
  · unfold wpListIn
    rw [if_pos (by simp [Region.wanted, gM])]
    refine ⟨fun _ _ => trivial, ?_⟩
    rw [Oper.semAt_eq _ _ _ (by rw [hM]; intro c h; cases h)]
    have hsem : (execOp a.eval oM).run P w = .ok (.value (.map (some w.heap.size))) (w.alloc (.map #[] 0)) := by
      simp only [execOp, hM]
      rfl
    rw [hsem]
    show wpListIn _ _ _ _ _ _ (a.put oM.dst _) _
    rw [dM]
    unfold wpListIn
    rw [if_pos (by simp [Region.wanted, gA])]
    refine ⟨fun _ _ => trivial, ?_⟩
    rw [Oper.semAt_eq _ _ _ (by rw [hA]; intro c h; cases h)]
    have hval : (a.put (some d) (.map (some w.heap.size))).eval (.tmp d) = .map (some w.heap.size) := by
      have hs : d < a.tmps.size := by rw [H.size]; exact hd
      simp [Act.put, Act.eval, hs]
    have hsem2 : (execOp (a.put (some d) (.map (some w.heap.size))).eval oA).run P (w.alloc (.map #[] 0)) = .ok (.value (.map (some w.heap.size))) (w.alloc (.map #[] 0)) := by
      simp only [execOp, hA, hval, Sem.run_pure]
    rw [hsem2]
    show wpListIn _ _ _ _ _ _ (Act.put _ oA.dst _) _
    rw [dA]
    unfold wpListIn
    have hk : Keeps (fun b => B0.S b ∨ (∃ o y, al0.M b o = some y)) w (w.alloc (.map #[] 0)) := (Keeps.refl _ w).alloc (fun b hb => hb.elim (H.w.size b) fun ⟨o, y, hy⟩ => H.w.memLt hy) _
    have hkB : Keeps B0.S w (w.alloc (.map #[] 0)) := hk.mono fun b hb => .inl hb
    have hnew : (w.alloc (.map #[] 0)).heap[w.heap.size]? = some (.map #[] 0) := by show (w.heap.push _)[w.heap.size]? = _; simp
    refine ⟨⟨fun b => B0.S b ∨ b = w.heap.size, al0.M, B0.pl, a.defers, H.w.gok⟩, ρ0, al0, hpl, ⟨.inr rfl, hL, _, _, hnew, rfl⟩, ⟨?_, ?_, ?_, ?_, ?_⟩, fun b hb => ⟨.inl hb, ?_⟩, H.w.below.trans hkB, ?_, Mem.le_refl _, ?_⟩
    · simp [put_size, H.size]
    · simp only [put_defers]
      exact Marks.nil _ _ _
    · exact (H.t.putT (d := some d) H.size (by simpa [dstOk] using hd) (x := .s (.l (.v (.map (some w.heap.size))))) rfl).putT (d := some d2) (by rw [put_size, H.size]) (by simpa [dstOk] using hd2) (x := .s (.l (.v (.map (some w.heap.size))))) rfl
    · refine ⟨fun b hb => ?_, .refl _ _, fun b k hk => by simp [hown, hget] at hk, fun b k hk => by simp [hown, hget] at hk, fun b k hk => by simp [hown, hget] at hk, fun b c k l hk => by simp [hown, hget] at hk, fun b o y hy => ?_, fun b k hk => by simp [hown, hget] at hk, fun b o y hy => .inl hy, Mem.le_refl _, fun j l hl => by rw [hpl0] at hl; cases hl⟩
      · rcases hb with hb | rfl
        · have := H.w.size b hb
          simp
          omega
        · simp
      · have h1 := H.w.mem b o y hy
        have h2 := hk.block b (.inr ⟨o, y, hy⟩)
        unfold World.cell? at h1 ⊢
        simpa only [h2] using h1
    · intro b hb
      have := H.al b hb
      show b < s.nx + 16
      omega
    · have := H.w.size b hb
      show b ≠ w.heap.size
      omega
    · simp only [put_defers]
      exact H.defers.keep hkB.kept
    · simp only [put_defers]
  · rintro e a' w' q
    cases e with
    | normal => exact wpIn_mono (h _ _ a' w' q) fun e2 a2 w2 hq => done e2 a2 w2 hq
    | _ => exact q.elim
end

end Go.Proofs.YtkjkogmnijfanaaDoor
