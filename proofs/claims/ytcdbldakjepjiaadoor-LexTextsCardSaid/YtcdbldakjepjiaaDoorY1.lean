/- The value logic with lasting memory: ranges over functions, part 1: what an iterator and the rounds of a loop promise each other; the code of an iterator. No program in sight. -/
import Derived.Test.YtcdbldakjepjiaaDoorU17
import Derived.RangeFuncSeq
set_option linter.unusedVariables false
set_option linter.unusedSimpArgs false
namespace Go.Proofs.YtcdbldakjepjiaaDoor
open Go.RowKit

/-! ### Two memories together -/
def Holds (M : Mem) (w : World) : Prop := ∀ b o y, M b o = some y → w.cell? ⟨b, o, none⟩ = some y

def Mem.join (M M' : Mem) : Mem := fun b o => match M b o with
  | some y => some y
  | none => M' b o
theorem Mem.join_left {M M' : Mem} : M.le (M.join M') := fun b o y h => by simp only [Mem.join, h]
theorem Mem.join_some {M M' : Mem} {b o : Nat} {y : Value} (h : M.join M' b o = some y) : M b o = some y ∨ M' b o = some y := by
  unfold Mem.join at h
  split at h
  · rename_i e; exact .inl (e.trans h)
  · exact .inr h
theorem Mem.join_right {M M' : Mem} {w : World} (h : Holds M w) (h' : Holds M' w) : M'.le (M.join M') := fun b o y e => by
  unfold Mem.join
  split
  · rename_i z hz
    have h1 := h b o z hz
    rw [h' b o y e] at h1
    injection h1 with h1
    rw [h1]
  · exact e

theorem WRep.addM {B : Base} {w0 : World} {ρ : Nat → Loc} {al : Al} {h : Heap} {w : World} (H : WRep B w0 ρ al h w) {M : Mem} (hM : Holds M w) (ho : ∀ b k, hget h b = some k → k.own = true → (ρ b).cap ≠ 0 → ∀ o, M (ρ b).blk o = none)
    (hN : ∀ b o y, M b o = some y → B.M b o = some y ∨ ¬ B.S b) : WRep B w0 ρ ⟨al.p, al.M.join M⟩ h w := by
  have E : Ext ρ ρ al ⟨al.p, al.M.join M⟩ := ⟨fun _ _ => rfl, Mem.join_left, fun _ h => h⟩
  refine ⟨H.base, H.below, fun b k hk => (H.blk b k hk).ext E rfl, H.own, H.old, H.apart, fun b o y hy => ?_, fun b k hk hown hc o => ?_, fun b o y hy => ?_, Mem.le_trans H.memOld E.M, H.pins⟩
  · rcases Mem.join_some hy with h1 | h1
    · exact H.mem b o y h1
    · exact hM b o y h1
  · cases e : al.M.join M (ρ b).blk o with
    | none => exact e
    | some y =>
      rcases Mem.join_some e with h1 | h1
      · rw [H.memOwn b k hk hown hc o] at h1; cases h1
      · rw [ho b k hk hown hc o] at h1; cases h1
  · rcases Mem.join_some hy with h1 | h1
    · exact H.memNew b o y h1
    · exact hN b o y h1

/-! ### Values that name pinned blocks only -/
def LV.pin (K : Nat) : LV → Bool
  | .sl b _ _ => decide (b < K)
  | .p b _ _ => decide (b < K)
  | _ => true
def SV.pin (K : Nat) : SV → Bool
  | .l x => x.pin K
  | .agg xs => xs.all (·.pin K)
def AV.pin (K : Nat) : AV → Bool
  | .s x => x.pin K
  | .tup xs => xs.all (·.pin K)
  | .fn _ f c => f.all (·.pin K) && c.all (·.pin K)

section
variable {K : Nat} {ρ ρ' : Nat → Loc} {al al' : Al} (hM : al.M.le al'.M) (hp : ∀ j, j < K → al' j ∧ ρ' j = ρ j)
include hM hp
theorem LRep.pinned {x : LV} {y : Value} (h : LRep ρ al x y) (hx : x.pin K = true) : LRep ρ' al' x y := by
  cases x with
  | v x => exact h
  | d x => exact DRep.mono hM h
  | any => trivial
  | sl b i n =>
    obtain ⟨g1, g2⟩ := hp b (of_decide_eq_true hx)
    obtain ⟨_, A, h1, h2, h3⟩ := h
    exact ⟨g1, A, by rw [g2]; exact h1, by rw [g2]; exact h2, by rw [g2]; exact h3⟩
  | p b i j =>
    obtain ⟨g1, g2⟩ := hp b (of_decide_eq_true hx)
    exact ⟨g1, by rw [g2]; exact h.2⟩
theorem LsRep.pinned : ∀ {xs : List LV} {ys : List Value}, LsRep ρ al xs ys → xs.all (·.pin K) = true → LsRep ρ' al' xs ys
  | [], [], _, _ => trivial
  | x :: xs, y :: ys, ⟨a, b, c⟩, hf => by
    simp only [List.all_cons, Bool.and_eq_true] at hf
    exact ⟨a, b.pinned hM hp hf.1, LsRep.pinned c hf.2⟩
  | [], _ :: _, h, _ => h.elim
  | _ :: _, [], h, _ => h.elim
theorem SRep.pinned {x : SV} {y : Value} (h : SRep ρ al x y) (hf : x.pin K = true) : SRep ρ' al' x y := by
  cases x with
  | l x => exact LRep.pinned hM hp h hf
  | agg xs => obtain ⟨cs, e, h⟩ := h; exact ⟨cs, e, h.pinned hM hp hf⟩
theorem SsRep.pinned : ∀ {xs : List SV} {ys : List Value}, SsRep ρ al xs ys → xs.all (·.pin K) = true → SsRep ρ' al' xs ys
  | [], [], _, _ => trivial
  | x :: xs, y :: ys, ⟨a, b⟩, hf => by
    simp only [List.all_cons, Bool.and_eq_true] at hf
    exact ⟨a.pinned hM hp hf.1, SsRep.pinned b hf.2⟩
  | [], _ :: _, h, _ => h.elim
  | _ :: _, [], h, _ => h.elim
theorem ARep.pinned {x : AV} {y : Value} (h : ARep ρ al x y) (hf : x.pin K = true) : ARep ρ' al' x y := by
  cases x with
  | s x => exact SRep.pinned hM hp h hf
  | tup xs => obtain ⟨cs, e, h⟩ := h; exact ⟨cs, e, h.pinned hM hp hf⟩
  | fn g f c =>
    obtain ⟨fs, cs, e, h, k⟩ := h
    simp only [AV.pin, Bool.and_eq_true] at hf
    exact ⟨fs, cs, e, h.pinned hM hp hf.1, k.pinned hM hp hf.2⟩
theorem AsRep.pinned : ∀ {xs : List AV} {ys : List Value}, AsRep ρ al xs ys → xs.all (·.pin K) = true → AsRep ρ' al' xs ys
  | [], [], _, _ => trivial
  | x :: xs, y :: ys, ⟨a, b⟩, hf => by
    simp only [List.all_cons, Bool.and_eq_true] at hf
    exact ⟨a.pinned hM hp hf.1, AsRep.pinned b hf.2⟩
  | [], _ :: _, h, _ => h.elim
  | _ :: _, [], h, _ => h.elim
end

theorem tget_memY {t : Tmps} {k : Nat} : tget t k = .s (.l .any) ∨ (k, tget t k) ∈ t := by
  induction t with
  | nil => exact .inl rfl
  | cons p r ih =>
    obtain ⟨j, A⟩ := p
    rw [tget]
    split
    · rename_i e; subst e; exact .inr (by simp)
    · rcases ih with h | h
      · exact .inl h
      · exact .inr (by simp [h])

theorem tpin_of {K : Nat} {t : Tmps} (h : t.all (fun p => p.2.pin K) = true) (ρ : Nat → Loc) (al : Al) (ρ' : Nat → Loc) (al' : Al) (tm : Array Value) (hM : al.M.le al'.M) (hp : ∀ j, j < K → al' j ∧ ρ' j = ρ j) (hT : TRep ρ al t tm) : TRep ρ' al' t tm := by
  intro k
  have h1 := hT k
  rcases tget_memY (t := t) (k := k) with e | e
  · rw [e]; trivial
  · exact h1.pinned hM hp (List.all_eq_true.1 h _ e)

/-- what hangs on no block -/
def ρz : Nat → Loc := fun _ => ⟨0, 0, 0, 0, true⟩
def alz (M : Mem) : Al := ⟨fun _ => False, M⟩
theorem Ext.ofz {M : Mem} {ρ : Nat → Loc} {al : Al} (h : M.le al.M) : Ext ρz ρ (alz M) al := ⟨fun _ h => h.elim, h, fun _ h => h.elim⟩

/-! ### What the two promise each other -/
structure Kept (S : Nat → Prop) (w w' : World) : Prop where
  os : w'.os = w.os
  tape : w'.tape = w.tape
  output : w'.output = w.output
  size : w.heap.size ≤ w'.heap.size
  block : ∀ k, S k → w'.heap[k]? = w.heap[k]?
theorem Keeps.toKept {S : Nat → Prop} {w w' : World} (h : Keeps S w w') : Kept S w w' := ⟨h.os, h.tape, h.output, h.size, h.block⟩
theorem Kept.trans {S : Nat → Prop} {a b c : World} (h : Kept S a b) (k : Kept S b c) : Kept S a c :=
  ⟨k.os.trans h.os, k.tape.trans h.tape, k.output.trans h.output, Nat.le_trans h.size k.size, fun i hi => (k.block i hi).trans (h.block i hi)⟩
theorem Kept.mono {S S' : Nat → Prop} {w w' : World} (h : Kept S w w') (hS : ∀ k, S' k → S k) : Kept S' w w' := ⟨h.os, h.tape, h.output, h.size, fun k hk => h.block k (hS k hk)⟩

/-- The rounds of a loop as an iterator sees them: ghost states g; where each stands in the list, whether more is wanted; what it hangs on (dep), what a round may change of that (mt). -/
structure Rounds (P : Program) (l : Nat) (L : List (List AV)) (γ : Type) where
  N0 : Nat
  M0 : Mem
  J : γ → World → Prop
  dep : γ → Nat → Prop
  mt : γ → Nat → Prop
  pos : γ → Nat
  live : γ → Bool
  fit : ∀ g W, J g W → ∀ k, dep g k → k < W.heap.size
  steady : ∀ g A B, J g A → Kept (dep g) A B → J g B
  sub : ∀ g k, mt g k → dep g k
  round : ∀ g W M As vs, J g W → live g = true → L[pos g]? = some As → Holds M W → (∀ b o y, M b o = some y → ¬ mt g b ∧ (M0 b o = some y ∨ N0 ≤ b)) → AsRep ρz (alz M) As vs →
    YieldAt (Fw ⟨none, 0⟩) 0 P l vs.toArray W fun e W' =>
    ∃ g', J g' W' ∧ pos g' = pos g + 1 ∧ e = .returned (.bool (live g')) ∧ Keeps (fun k => k < W.heap.size ∧ ¬ mt g k) W W' ∧
      (∀ k, dep g' k → dep g k ∨ W.heap.size ≤ k ∨ ∃ o y, M k o = some y) ∧ (∀ k, mt g' k → mt g k ∨ W.heap.size ≤ k)

/-- No rounds at all. -/
def Rounds.no (P : Program) : Rounds P 0 [] Unit where
  N0 := 0
  M0 := fun _ _ => none
  J := fun _ _ => True
  dep := fun _ _ => False
  mt := fun _ _ => False
  pos := fun _ => 0
  live := fun _ => true
  fit := fun _ _ _ _ h => h.elim
  steady := fun _ _ _ _ _ => trivial
  sub := fun _ _ h => h
  round := fun _ _ _ _ _ _ _ h => by cases h

/-- An iterator: what it caught tells the list that it goes through. -/
structure It (P : Program) (f : FuncId) where
  enter : ∀ (args : Array Value) (w : World), (callFunc f args).run P w = .ok (.enter f args) w
  dec : List D → Option (Prop × List (List AV))
  sound : ∀ {ds : List D} {q : Prop} {L : List (List AV)}, dec ds = some (q, L) → q → ∀ (M : Mem) (W : World) (caps : List Value), Gok M → Holds M W → DsRep M ds caps →
    ∀ (l : Nat) (γ : Type) (R : Rounds P l L γ) (g : γ), R.N0 ≤ W.heap.size → R.J g W → R.pos g = 0 → R.live g = true → (∀ b o y, M b o = some y → ¬ R.mt g b ∧ (R.M0 b o = some y ∨ R.N0 ≤ b)) →
      Calls P f (Value.func (.yield l) #[] #[] :: caps).toArray W fun e W' => (∃ v, e = .returned v) ∧ ∃ g', R.J g' W' ∧ (R.live g' = true → R.pos g' = L.length)

/-- Blocks are pinned for a while. -/
theorem sw_pin {P : Program} {ro : Option Nat} {K K' n : Nat} {c : Code} {s : St} {Q : Exit → St → Prop} (hK : K ≤ K') (hb : ∀ j, j < K' → ∃ k, hget s.h j = some k) (h : SW P ⟨ro, K'⟩ n c s Q) : SW P ⟨ro, K⟩ n c s Q := by
  intro B w0 ρ al a w hpl H
  let B' : Base := ⟨B.S, B.M, (List.range K').map ρ, B.ds, B.gok⟩
  have hpin : ∀ {j : Nat}, j < K' → B'.pl[j]? = some (ρ j) := by
    intro j hj
    simp only [B', List.getElem?_map, List.getElem?_range hj, Option.map_some]
  have H' : RepS n B' w0 ρ al s a w := by
    refine ⟨H.size, H.defers, H.t, ⟨H.w.base, H.w.below, H.w.blk, H.w.own, H.w.old, H.w.apart, H.w.mem, H.w.memOwn, H.w.memNew, H.w.memOld, fun j l hj => ?_⟩, H.al⟩
    have hjK : j < K' := by
      have := (List.getElem?_eq_some_iff.1 hj).1
      simpa [B'] using this
    rw [hpin hjK] at hj
    injection hj with hj
    obtain ⟨k, hk⟩ := hb j hjK
    exact ⟨(H.w.blk j k hk).here, hj⟩
  refine wpIn_mono (h B' w0 ρ al a w (by simp [B']) H') ?_
  rintro e a' w' ⟨ρ', al', s', R, q⟩
  refine ⟨ρ', al', s', ⟨R.size, R.defers, R.t, ⟨R.w.base, R.w.below, R.w.blk, R.w.own, R.w.old, R.w.apart, R.w.mem, R.w.memOwn, R.w.memNew, R.w.memOld, fun j l hj => ?_⟩, R.al⟩, q⟩
  have hjK : j < K := by
    have := (List.getElem?_eq_some_iff.1 hj).1
    rw [hpl] at this
    exact this
  obtain ⟨h1, h2⟩ := R.w.pins j _ (hpin (by omega))
  obtain ⟨_, h3⟩ := H.w.pins j l hj
  exact ⟨h1, h2.trans h3⟩

section
variable {B : Base} {w0 : World} {ρ : Nat → Loc} {al : Al} {h : Heap} {W : World}

/-- an object that holds no cells, and no late calls, is turned -/
theorem WRep.turn (H : WRep B w0 ρ al h W) {l : Nat} {o o' : Obj} (hl : W.heap[l]? = some o) (ho : o.isCells = false) (hd : isDef o = false) (hS : ¬ B.S l) : WRep B w0 ρ al h (W.putObj l o') := by
  have hne : ∀ k, (∃ q : Obj, W.heap[k]? = some q ∧ q.isCells = true) → k ≠ l := by
    rintro k ⟨q, h1, h2⟩ rfl
    rw [hl] at h1
    injection h1 with h1
    subst h1
    rw [ho] at h2; cases h2
  refine H.step (.refl _ _) (H.below.trans ⟨rfl, rfl, rfl, by simp [World.putObj], fun k hk => World.putObj_heap_other (by rintro rfl; exact hS hk), fun k q hk hq => ?_⟩) (fun b k hk hc => World.putObj_heap_other ?_) (fun b ⟨o, y, hy⟩ => World.putObj_heap_other (hne b (isCells_of (H.mem b o y hy))))
  · rw [World.putObj_heap_other]
    · exact hk
    · rintro rfl
      rw [hl] at hk
      injection hk with hk
      subst hk
      rw [hd] at hq; cases hq
  · cases hob : k.own with
    | true =>
      have hcap : (ρ b).cap ≠ 0 := by
        rcases hc with hc | hc
        · have := (H.blk b k hk).cap
          intro h0
          exact hc (List.eq_nil_of_length_eq_zero (by omega))
        · exact hc.2
      obtain ⟨cur, fr, h1, _⟩ := ((H.blk b k hk).room hob).2.2 hcap
      exact hne _ ⟨_, h1, rfl⟩
    | false =>
      have h1 := H.old b k hk hob (hc.resolve_right (by rw [hob]; simp))
      rintro e
      exact hS (e ▸ h1)

/-- other blocks are held to be kept, from here on -/
theorem WRep.rekeep (H : WRep B w0 ρ al h W) (S' : Nat → Prop) (ds : List Deferred) (hS : ∀ k, S' k → k < W.heap.size) (hown : ∀ b k, hget h b = some k → k.own = true) (hno : ∀ b k, hget h b = some k → (ρ b).cap ≠ 0 → ¬ S' (ρ b).blk) : WRep ⟨S', al.M, B.pl, ds, H.gok⟩ W ρ al h W :=
  ⟨hS, .refl _ _, H.blk, fun b k hk _ => hno b k hk, fun b k hk ho => (by rw [hown b k hk] at ho; cases ho), H.apart, H.mem, H.memOwn, fun b o y hy => .inl hy, Mem.le_refl _, H.pins⟩

/-- .. and back -/
theorem WRep.rekept (H : WRep B w0 ρ al h W) {S' : Nat → Prop} {ds : List Deferred} {ρ' : Nat → Loc} {al' : Al} {h' : Heap} {W' : World} {g : Gok al.M} (H' : WRep ⟨S', al.M, B.pl, ds, g⟩ W ρ' al' h' W') (hSS : ∀ k, B.S k → S' k) (hown : ∀ b k, hget h' b = some k → k.own = true) : WRep B w0 ρ' al' h' W' :=
  ⟨H.base, H.below.trans (H'.below.mono hSS), H'.blk, fun b k hk ho hc hB => H'.own b k hk ho hc (hSS _ hB), fun b k hk ho => (by rw [hown b k hk] at ho; cases ho), H'.apart, H'.mem, H'.memOwn,
    fun b o y hy => (H'.memNew b o y hy).elim (H.memNew b o y) fun h => .inr fun hB => h (hSS _ hB), Mem.le_trans H.memOld H'.memOld, H'.pins⟩
end

/-- the slots with a round's parameters -/
def putPs : List (Tmp × AV) → Tmps → Tmps
  | [], t => t
  | (p, v) :: r, t => putPs r ((p, v) :: t)
theorem putPs_rep {ρ : Nat → Loc} {al : Al} : ∀ {ps : List Tmp} {As : List AV} {vs : List Value} {t : Tmps} {tm : Array Value}, (∀ p ∈ ps, p < tm.size) → AsRep ρ al As vs → TRep ρ al t tm → TRep ρ al (putPs (ps.zip As) t) ((ps.zip vs).foldl (fun tm x => tm.setIfInBounds x.1 x.2) tm)
  | [], _, _, _, _, _, _, h => h
  | _ :: _, [], [], _, _, _, _, h => h
  | _ :: _, [], _ :: _, _, _, _, h, _ => h.elim
  | _ :: _, _ :: _, [], _, _, _, h, _ => h.elim
  | p :: ps, A :: As, v :: vs, t, tm, hl, ⟨ha, hr⟩, h => by
    simp only [List.zip_cons_cons, putPs, List.foldl_cons]
    exact putPs_rep (fun x hx => by rw [Array.size_setIfInBounds]; exact hl x (by simp [hx])) hr (TRep.put h (hl p (by simp)) ha)
theorem zip_foldl {ps : Array Tmp} {vs : List Value} {tm : Array Value} : (ps.zip vs.toArray).foldl (fun (tm : Array Value) (x : Tmp × Value) => tm.setIfInBounds x.1 x.2) tm = (ps.toList.zip vs).foldl (fun tm x => tm.setIfInBounds x.1 x.2) tm := by
  rw [← Array.foldl_toList, Array.toList_zip]

def ownB (h : Heap) (ρ : Nat → Loc) (k : Nat) : Prop := ∃ b kk, hget h b = some kk ∧ (ρ b).cap ≠ 0 ∧ (ρ b).blk = k

/-! ### A state of an iterator -/
section
variable {P : Program} {l : Nat} {L : List (List AV)} {γ : Type}

structure YRep (R : Rounds P l L γ) (n : Nat) (B : Base) (w0 : World) (g0 : γ) (ρ : Nat → Loc) (al : Al) (s : St) (a : Act) (w : World) (g : γ) : Prop where
  r : RepS n B w0 ρ al s a w
  own : ∀ b k, hget s.h b = some k → k.own = true
  J : R.J g w
  N : R.N0 ≤ w0.heap.size
  dep : ∀ b k, hget s.h b = some k → (ρ b).cap ≠ 0 → ¬ R.dep g (ρ b).blk
  ownN : ∀ b k, hget s.h b = some k → (ρ b).cap ≠ 0 → R.N0 ≤ (ρ b).blk
  mem : ∀ b o y, al.M b o = some y → ¬ R.mt g b
  memN : ∀ b o y, al.M b o = some y → R.M0 b o = some y ∨ R.N0 ≤ b
  S : ∀ k, B.S k → ¬ R.mt g k
  mks : ∀ rs : List Nat, a.defers = rs.map mark ++ B.ds → ∀ r ∈ rs, ¬ R.dep g r
  fol : ∀ k, R.dep g k → R.dep g0 k ∨ w0.heap.size ≤ k ∨ ∃ o y, al.M k o = some y
  folm : ∀ k, R.mt g k → R.mt g0 k ∨ w0.heap.size ≤ k

theorem mark_inj {r r' : Nat} (h : mark r = mark r') : r = r' := by
  unfold mark at h
  injection h with h
  injection h

theorem marks_eq {rs rs' : List Nat} {ds : List Deferred} (h : rs.map mark ++ ds = rs'.map mark ++ ds) : rs = rs' :=
  (List.map_inj_right fun _ _ => mark_inj).1 (List.append_cancel_right h)

theorem Marks.trans {N : Nat} {d0 ds ds' : List Deferred} {w w' : World} (h : Marks N d0 ds w) (k : Marks w.heap.size ds ds' w') (hN : N ≤ w.heap.size) (hk : KeepsD w w') : Marks N d0 ds' w' := by
  obtain ⟨rs, n1, rfl, k1⟩ := h
  obtain ⟨rs', n2, rfl, k2⟩ := k
  refine ⟨rs' ++ rs, ?_, by simp, ?_⟩
  · rw [List.nodup_append]
    refine ⟨n2, n1, ?_⟩
    rintro r hr r' hr' rfl
    have h1 := (k2 r hr).1
    have h2 := (Array.getElem?_eq_some_iff.1 (k1 r hr').2).1
    omega
  · intro r hr
    rcases List.mem_append.1 hr with hr | hr
    · exact ⟨Nat.le_trans hN (k2 r hr).1, (k2 r hr).2⟩
    · exact ⟨(k1 r hr).1, hk.same r _ (k1 r hr).2 rfl⟩

/-- what is not the iterator's own is kept, from here on -/
def dnS (h : Heap) (ρ : Nat → Loc) (w : World) (k : Nat) : Prop := k < w.heap.size ∧ ¬ ownB h ρ k

variable {R : Rounds P l L γ} {n : Nat} {B : Base} {w0 : World} {g0 g : γ} {ρ ρ' : Nat → Loc} {al al' : Al} {s s' : St} {a a' : Act} {w w' : World}

theorem YRep.down (H : YRep R n B w0 g0 ρ al s a w g) : RepS n ⟨dnS s.h ρ w, al.M, B.pl, a.defers, H.r.w.gok⟩ w ρ al s a w :=
  ⟨H.r.size, Marks.nil _ _ _, H.r.t, H.r.w.rekeep _ _ (fun k hk => hk.1) H.own (fun b k hk hc hS => hS.2 ⟨b, k, hk, hc, rfl⟩), H.r.al⟩

theorem YRep.up (H : YRep R n B w0 g0 ρ al s a w g) (H' : RepS n ⟨dnS s.h ρ w, al.M, B.pl, a.defers, H.r.w.gok⟩ w ρ' al' s' a' w') (hown : ∀ b k, hget s'.h b = some k → k.own = true) : YRep R n B w0 g0 ρ' al' s' a' w' g := by
  have hw0 : w0.heap.size ≤ w.heap.size := H.r.w.below.size
  have hdep : ∀ k, R.dep g k → dnS s.h ρ w k := fun k hk => ⟨R.fit g w H.J k hk, by rintro ⟨b, kk, h1, h2, rfl⟩; exact H.dep b kk h1 h2 hk⟩
  have hSS : ∀ k, B.S k → dnS s.h ρ w k := fun k hk => ⟨H.r.w.size k hk, by rintro ⟨b, kk, h1, h2, rfl⟩; exact H.r.w.own b kk h1 (H.own b kk h1) h2 hk⟩
  have hnew : ∀ k, ¬ dnS s.h ρ w k → R.N0 ≤ k := by
    intro k hk
    by_cases h1 : k < w.heap.size
    · by_cases h2 : ownB s.h ρ k
      · obtain ⟨b, kk, h3, h4, rfl⟩ := h2
        exact H.ownN b kk h3 h4
      · exact (hk ⟨h1, h2⟩).elim
    · have := H.N; omega
  refine ⟨⟨H'.size, H.r.defers.trans H'.defers hw0 H'.w.below.kept, H'.t, H.r.w.rekept H'.w hSS hown, H'.al⟩, hown, R.steady g w w' H.J ((H'.w.below.mono hdep).toKept), H.N, fun b k hk hc hd => H'.w.own b k hk (hown b k hk) hc (hdep _ hd), fun b k hk hc => hnew _ (H'.w.own b k hk (hown b k hk) hc), fun b o y hy hm => ?_, fun b o y hy => ?_, H.S, fun rs hrs r hr hd => ?_, fun k hk => (H.fol k hk).imp_right fun h => h.imp_right fun ⟨o, y, hy⟩ => ⟨o, y, H'.w.memOld k o y hy⟩, H.folm⟩
  · rcases H'.w.memNew b o y hy with h1 | h1
    · exact H.mem b o y h1 hm
    · exact h1 (hdep b (R.sub g b hm))
  · rcases H'.w.memNew b o y hy with h1 | h1
    · exact H.memN b o y h1
    · exact .inr (hnew b h1)
  · obtain ⟨rs', h1, h2, h3⟩ := H'.defers
    obtain ⟨rs0, k1, k2, k3⟩ := H.r.defers
    have e1 : a'.defers = rs'.map mark ++ a.defers := h2
    obtain rfl := marks_eq (rs := rs) (rs' := rs' ++ rs0) (by rw [← hrs, e1, k2, List.map_append, List.append_assoc])
    rcases List.mem_append.1 hr with hr | hr
    · have h6 := (h3 _ hr).1
      have h7 := R.fit g w H.J _ hd
      omega
    · exact H.mks rs0 k2 r hr hd

/-- What an iterator's code does; y: where it stands in the list, and whether more is wanted. -/
def SWy (P : Program) (l : Nat) (L : List (List AV)) (ro : Cf) (n : Nat) (c : Code) (s : St) (y : Nat × Bool) (Q : Exit → St → Nat × Bool → Prop) : Prop :=
  ∀ (γ : Type) (R : Rounds P l L γ) B w0 g0 ρ al a w g, B.pl.length = ro.K → YRep R n B w0 g0 ρ al s a w g → R.pos g = y.1 → R.live g = y.2 →
    c.wpIn (Fw ro) 0 P (fun e a' w' => ∃ ρ' al' s' g', YRep R n B w0 g0 ρ' al' s' a' w' g' ∧ Q e s' (R.pos g', R.live g')) a w

/-- all blocks are the code's own -/
def ownL : Heap → Bool
  | [] => true
  | (_, some k) :: r => k.own && ownL r
  | (_, none) :: r => ownL r
theorem ownL_get : ∀ {h : Heap}, ownL h = true → ∀ b k, hget h b = some k → k.own = true
  | [], _, b, k, hk => by cases hk
  | (c, some x) :: r, h, b, k, hk => by
    simp only [ownL, Bool.and_eq_true] at h
    rw [hget] at hk
    split at hk
    · injection hk with e; subst e; exact h.1
    · exact ownL_get h.2 b k hk
  | (c, none) :: r, h, b, k, hk => by
    rw [hget] at hk
    split at hk
    · cases hk
    · exact ownL_get (by simpa only [ownL] using h) b k hk
theorem ownL_append {E h : Heap} (hE : ownL E = true) (hh : ∀ b k, hget h b = some k → k.own = true) : ∀ b k, hget (E ++ h) b = some k → k.own = true := by
  induction E with
  | nil => exact hh
  | cons p r ih =>
    obtain ⟨c, x⟩ := p
    intro b k hk
    rw [List.cons_append, hget] at hk
    cases x with
    | none =>
      split at hk
      · cases hk
      · exact ih (by simpa only [ownL] using hE) b k hk
    | some x =>
      simp only [ownL, Bool.and_eq_true] at hE
      split at hk
      · injection hk with e; subst e; exact hE.1
      · exact ih hE.2 b k hk

variable {ro : Cf} {y : Nat × Bool}

theorem SWy.mono {c : Code} {Q Q' : Exit → St → Nat × Bool → Prop} (h : SWy P l L ro n c s y Q) (hq : ∀ e s y, Q e s y → Q' e s y) : SWy P l L ro n c s y Q' :=
  fun γ R B w0 g0 ρ al a w g hpl H h1 h2 => wpIn_mono (h γ R B w0 g0 ρ al a w g hpl H h1 h2) fun _ _ _ ⟨ρ', al', s', g', H', q⟩ => ⟨ρ', al', s', g', H', hq _ _ _ q⟩

/-- Code that yields nothing. -/
theorem swy_of_sw {c : Code} {Q : Exit → St → Nat × Bool → Prop} (h : SW P ro n c s fun e s' => (∀ b k, hget s'.h b = some k → k.own = true) ∧ Q e s' y) : SWy P l L ro n c s y Q := by
  intro γ R B w0 g0 ρ al a w g hpl H h1 h2
  refine wpIn_mono (h ⟨dnS s.h ρ w, al.M, B.pl, a.defers, H.r.w.gok⟩ w ρ al a w hpl H.down) ?_
  rintro e a' w' ⟨ρ', al', s', H', ho, q⟩
  refine ⟨ρ', al', s', g, H.up H' ho, ?_⟩
  rw [h1, h2]
  exact q

/-- .. and code that has no one to yield to -/
theorem sw_of_swy {c : Code} {Q : Exit → St → Prop} (hown : ∀ b k, hget s.h b = some k → k.own = true) (h : SWy P 0 [] ro n c s (0, true) fun e s' _ => Q e s') : SW P ro n c s Q := by
  intro B w0 ρ al a w hpl H
  refine wpIn_mono (h Unit (Rounds.no P) B w0 () ρ al a w () hpl ⟨H, hown, trivial, Nat.zero_le _, fun _ _ _ _ h => h, fun _ _ _ _ => Nat.zero_le _, fun _ _ _ _ h => h, fun b _ _ _ => .inr (Nat.zero_le b), fun _ _ h => h, fun _ _ _ _ h => h, fun _ h => h.elim, fun _ h => h.elim⟩ rfl rfl) ?_
  rintro e a' w' ⟨ρ', al', s', g', H', q⟩
  exact ⟨ρ', al', s', H'.r, q⟩

theorem YRep.wk (H : YRep R n B w0 g0 ρ al s a w g) (hpl : B.pl.length = ro.K) (h : Wk ro s s') (hown : ∀ b k, hget s'.h b = some k → k.own = true) : ∃ ρ' al', YRep R n B w0 g0 ρ' al' s' a w g := by
  obtain ⟨ρ', al', H'⟩ := h n ⟨dnS s.h ρ w, al.M, B.pl, a.defers, H.r.w.gok⟩ w ρ al a w hpl H.down
  exact ⟨ρ', al', H.up H' hown⟩

theorem SWy.wk {c : Code} {Q : Exit → St → Nat × Bool → Prop} (h : SWy P l L ro n c s' y Q) (hw : Wk ro s s') (hown : ∀ b k, hget s'.h b = some k → k.own = true) : SWy P l L ro n c s y Q := fun γ R B w0 g0 ρ al a w g hpl H h1 h2 => by
  obtain ⟨ρ', al', H'⟩ := H.wk hpl hw hown
  exact h γ R B w0 g0 ρ' al' a w g hpl H' h1 h2

/-! ### A yield -/
/-- what is yielded -/
def yOp (l : Nat) (o : Op) (ev : Operand → AV) : Option (List AV) :=
  match o with
  | .call c => match c.callee with
    | .value f => match ev f with
      | .s (.l (.v (.func (.yield l') ⟨[]⟩ ⟨[]⟩))) => if l' = l then some (c.args.toList.map ev) else none
      | _ => none
    | _ => none
  | _ => none

theorem yOp_run {o : Oper} {ev : Operand → AV} {As : List AV} (hT : ∀ x, ARep ρ al (ev x) (a.eval x)) (h : yOp l o.op ev = some As) :
    (∀ c, o.op ≠ .defer c) ∧ ∃ vs : List Value, AsRep ρ al As vs ∧ ∀ w : World, (execOp a.eval o).run P w = (Instr.yield l vs.toArray).run P w := by
  unfold yOp at h
  split at h
  case h_2 => cases h
  rename_i c ho
  refine ⟨fun d hd => (by rw [ho] at hd; cases hd), ?_⟩
  obtain ⟨callee, args, ts⟩ := c
  simp only at h
  split at h
  case h_2 => cases h
  rename_i f
  split at h
  case h_2 => cases h
  rename_i l' e
  split at h
  case isFalse => cases h
  rename_i hl
  subst hl
  injection h with h
  subst h
  have hf := hT f
  rw [e] at hf
  have hf' : a.eval f = .func (.yield l') #[] #[] := hf
  refine ⟨args.toList.map a.eval, AsRep.map hT _, fun w => ?_⟩
  simp only [execOp, ho, resolve, Deferred.ofValue, hf', invoke, Sem.run_bind, Sem.run_pure, Result.andThen_ok]
  congr 2
  rw [← Array.toList_inj]
  simp

theorem YRep.yield_wp (H : YRep R n B w0 g0 ρ al s a w g) {o : Oper} {As : List AV} {K : Act → World → Prop} {Q : Exit → Act → World → Prop} (hy : yOp l o.op (evT s.t) = some As) (hl : R.live g = true) (hL : L[R.pos g]? = some As) (hp : As.all (·.pin 0) = true) (hd : dstOk n o.dst = true)
    (hK : ∀ g' a' w', R.pos g' = R.pos g + 1 → YRep R n B w0 g0 ρ al ⟨s.nx, putT s.t o.dst (.s (.l (.v (.bool (R.live g'))))), s.h⟩ a' w' g' → K a' w') : o.wpIn (Fw ro) 0 P a w K Q := by
  obtain ⟨h1, vs, h2, h3⟩ := yOp_run (P := P) (evT_rep H.r.t) hy
  have hvz : AsRep ρz (alz al.M) As vs := AsRep.pinned (K := 0) (ρ' := ρz) (al' := alz al.M) (Mem.le_refl al.M) (fun j hj => (Nat.not_lt_zero _ hj).elim) h2 hp
  obtain ⟨fn, tmps, assign, body, hy1, hy2⟩ := R.round g w al.M As vs H.J hl hL H.r.w.mem (fun b o y hy => ⟨H.mem b o y hy, H.memN b o y hy⟩) hvz
  refine ⟨fun _ _ => trivial, ?_⟩
  rw [Oper.semAt_eq _ _ _ h1, h3 w, hy1]
  refine ⟨fun h => by simp [Fw, Fence.wide] at h, RoundIn.mono (show RoundIn (Fw ro) 0 P l fn tmps assign body w _ from hy2) ?_⟩
  rintro e w' ⟨g', J', hpos, rfl, hk, hdep, hmt⟩
  have hw0 : w0.heap.size ≤ w.heap.size := H.r.w.below.size
  refine hK g' _ w' hpos ⟨⟨put_size.trans H.r.size, ?_, H.r.t.putT H.r.size hd (show ARep ρ al (.s (.l (.v (.bool (R.live g'))))) _ from rfl), H.r.w.step (.refl _ _) (H.r.w.below.trans (hk.mono fun k hS => ⟨H.r.w.size k hS, H.S k hS⟩)) (fun b k hb hc => hk.block _ ⟨H.r.w.lt hb hc, fun hm => ?_⟩) (fun b ⟨o, y, hy⟩ => hk.block _ ⟨H.r.w.memLt hy, H.mem b o y hy⟩), H.r.al⟩, H.own, J', H.N, fun b k hb hc hdd => ?_, H.ownN, fun b o y hy hm => ?_, H.memN, fun k hS hm => ?_, fun rs hrs r hr hdd => ?_, fun k hdd => ?_, fun k hm => ?_⟩
  · rw [put_defers]; exact H.r.defers.keep hk.kept
  · refine H.dep b k hb ?_ (R.sub g _ hm)
    rcases hc with hc | hc
    · have := (H.r.w.blk b k hb).cap
      intro h0
      exact hc (List.eq_nil_of_length_eq_zero (by omega))
    · exact hc.2
  · rcases hdep _ hdd with h4 | h4 | ⟨o, y, h4⟩
    · exact H.dep b k hb hc h4
    · have := H.r.w.lt hb (.inr ⟨H.own b k hb, hc⟩)
      omega
    · rw [H.r.w.memOwn b k hb (H.own b k hb) hc o] at h4
      cases h4
  · rcases hmt _ hm with h4 | h4
    · exact H.mem b o y hy h4
    · have := H.r.w.memLt hy
      omega
  · rcases hmt _ hm with h4 | h4
    · exact H.S k hS h4
    · have := H.r.w.size k hS
      omega
  · rw [put_defers] at hrs
    obtain ⟨rs0, k1, k2, k3⟩ := H.r.defers
    obtain rfl := marks_eq (hrs.symm.trans k2)
    rcases hdep _ hdd with h4 | h4 | ⟨o, y, h4⟩
    · exact H.mks rs hrs r hr h4
    · have := (Array.getElem?_eq_some_iff.1 (k3 _ hr).2).1
      omega
    · obtain ⟨q, h5, h6⟩ := isCells_of (H.r.w.mem _ _ _ h4)
      rw [(k3 _ hr).2] at h5
      injection h5 with h5
      subst h5
      cases h6
  · rcases hdep _ hdd with h4 | h4 | h4
    · exact H.fol k h4
    · right; left; omega
    · exact .inr (.inr h4)
  · rcases hmt _ hm with h4 | h4
    · exact H.folm k h4
    · right; omega

end

end Go.Proofs.YtcdbldakjepjiaaDoor
