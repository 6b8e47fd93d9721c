/- The value logic with lasting memory, part 11: other numbers for the blocks; what is made lasting; a function's start and end. No program in sight. -/
import Derived.Test.YtcdbldakjepjiaaDoorU10
set_option linter.unusedVariables false
set_option linter.unusedSimpArgs false
namespace Go.Proofs.YtcdbldakjepjiaaDoor
open Go.RowKit

def LV.ren (g : Nat → Nat) : LV → LV
  | .v x => .v x
  | .d x => .d x
  | .sl b i n => .sl (g b) i n
  | .p b i j => .p (g b) i j
  | .any => .any
def SV.ren (g : Nat → Nat) : SV → SV
  | .l x => .l (x.ren g)
  | .agg xs => .agg (xs.map (·.ren g))
def AV.ren (g : Nat → Nat) : AV → AV
  | .s x => .s (x.ren g)
  | .tup xs => .tup (xs.map (·.ren g))
  | .fn f a c => .fn f (a.map (·.ren g)) (c.map (·.ren g))
def Blk.ren (g : Nat → Nat) (k : Blk) : Blk := ⟨k.own, k.T, k.sz, k.els.map (·.map (·.ren g))⟩

theorem LV.ren_v {g : Nat → Nat} {x : Value} : (LV.v x).ren g = .v x := rfl
theorem LV.ren_d {g : Nat → Nat} {x : D} : (LV.d x).ren g = .d x := rfl
theorem LV.ren_sl {g : Nat → Nat} {b i n : Nat} : (LV.sl b i n).ren g = .sl (g b) i n := rfl
theorem LV.ren_p {g : Nat → Nat} {b i j : Nat} : (LV.p b i j).ren g = .p (g b) i j := rfl
theorem LV.ren_any {g : Nat → Nat} : LV.any.ren g = .any := rfl
theorem ofD_ren {g : Nat → Nat} {x : D} : (ofD x).ren g = ofD x := by cases x <;> rfl
theorem ofDs_ren {g : Nat → Nat} {xs : List D} : (ofDs xs).map (·.ren g) = ofDs xs := by
  unfold ofDs
  rw [List.map_map]
  exact List.map_congr_left fun x _ => ofD_ren
theorem rows_ren {g : Nat → Nat} {els : List (List D)} : (els.map ofDs).map (·.map (·.ren g)) = els.map ofDs := by
  rw [List.map_map]
  exact List.map_congr_left fun x _ => ofDs_ren

def alR (al : Al) (g : Nat → Nat) : Al := ⟨fun b => al (g b), al.M⟩

section
variable {ρ : Nat → Loc} {al : Al} {g : Nat → Nat}
theorem LRep.ren {x : LV} {y : Value} (h : LRep ρ al (x.ren g) y) : LRep (fun b => ρ (g b)) (alR al g) x y := by
  cases x <;> exact h
theorem LsRep.ren : ∀ {xs : List LV} {ys : List Value}, LsRep ρ al (xs.map (·.ren g)) ys → LsRep (fun b => ρ (g b)) (alR al g) xs ys
  | [], [], _ => trivial
  | [], _ :: _, h => h.elim
  | _ :: _, [], h => h.elim
  | _ :: _, _ :: _, ⟨a, b, c⟩ => ⟨a, b.ren, LsRep.ren c⟩
theorem SRep.ren {x : SV} {y : Value} (h : SRep ρ al (x.ren g) y) : SRep (fun b => ρ (g b)) (alR al g) x y := by
  cases x with
  | l x => exact LRep.ren h
  | agg xs => obtain ⟨cs, e, h⟩ := h; exact ⟨cs, e, h.ren⟩
theorem SsRep.ren : ∀ {xs : List SV} {ys : List Value}, SsRep ρ al (xs.map (·.ren g)) ys → SsRep (fun b => ρ (g b)) (alR al g) xs ys
  | [], [], _ => trivial
  | [], _ :: _, h => h.elim
  | _ :: _, [], h => h.elim
  | _ :: _, _ :: _, ⟨a, b⟩ => ⟨a.ren, SsRep.ren b⟩
theorem ARep.ren {x : AV} {y : Value} (h : ARep ρ al (x.ren g) y) : ARep (fun b => ρ (g b)) (alR al g) x y := by
  cases x with
  | s x => exact SRep.ren h
  | tup xs => obtain ⟨cs, e, h⟩ := h; exact ⟨cs, e, h.ren⟩
  | fn f a c => obtain ⟨fs, cs, e, h, k⟩ := h; exact ⟨fs, cs, e, h.ren, k.ren⟩

theorem cellAt_ren {els : List (List LV)} {i j : Nat} {x : LV} (h : cellAt els i j = some x) : cellAt (els.map (·.map (·.ren g))) i j = some (x.ren g) := by
  obtain ⟨e, h1, h2⟩ := cellAt_some.1 h
  exact cellAt_some.2 ⟨e.map (·.ren g), by rw [List.getElem?_map, h1]; rfl, by rw [List.getElem?_map, h2]; rfl⟩

theorem BRep.ren {w : World} {b : Nat} {k : Blk} (h : BRep ρ al w (g b) (k.ren g)) : BRep (fun b => ρ (g b)) (alR al g) w b k :=
  ⟨h.here, h.own, h.sz, fun e he => by have := h.len (e.map (·.ren g)) (List.mem_map.2 ⟨e, he, rfl⟩); simpa [Blk.ren] using this, by simpa [Blk.ren] using h.cap,
    fun i j x hx => by
      obtain ⟨y, h1, h2, h3⟩ := h.cells i j _ (cellAt_ren hx)
      exact ⟨y, h1, h2, h3.ren⟩, h.room⟩

theorem tget_mem : ∀ {t : Tmps} {k : Nat} {A : AV}, tget t k = A → A = .s (.l .any) ∨ (k, A) ∈ t
  | [], k, A, h => .inl h.symm
  | (j, x) :: r, k, A, h => by
    rw [tget] at h
    split at h
    · rename_i e; subst e; subst h; exact .inr (by simp)
    · rcases tget_mem h with h | h
      · exact .inl h
      · exact .inr (by simp [h])

theorem hget_mem : ∀ {h : Heap} {b : Nat} {k : Blk}, hget h b = some k → (b, some k) ∈ h
  | [], _, _, h => by cases h
  | (j, x) :: r, b, k, h => by
    rw [hget] at h
    split at h
    · rename_i e; subst e; subst h; simp
    · simp [hget_mem h]
end

/-- The blocks have other numbers now: number k was L[k]; what isn't named is forgotten. -/
theorem Wk.ren {ro : Cf} {s s' : St} (L : List Nat) (hK : ∀ j, j < ro.K → L[j]? = some j) (hn : L.length ≤ s'.nx) (hd : L.Nodup) (ht : ∀ p ∈ s'.t, tget s.t p.1 = p.2.ren fun b => L.getD b s.nx) (hh : ∀ p ∈ s'.h, ∀ k, p.2 = some k → hget s.h (L.getD p.1 s.nx) = some (k.ren fun b => L.getD b s.nx)) : Wk ro s s' := by
  intro n B w0 ρ al a w hpl H
  have hno : ¬ al s.nx := fun h => Nat.lt_irrefl _ (H.al _ h)
  have hlt : ∀ b, al (L.getD b s.nx) → b < L.length := by
    intro b hb
    rcases Nat.lt_or_ge b L.length with h | h
    · exact h
    · rw [List.getD_eq_getElem?_getD, List.getElem?_eq_none h] at hb
      exact (hno hb).elim
  have hb : ∀ b k, hget s'.h b = some k → hget s.h (L.getD b s.nx) = some (k.ren fun b => L.getD b s.nx) := fun b k hk => hh _ (hget_mem hk) k rfl
  refine ⟨fun b => ρ (L.getD b s.nx), alR al fun b => L.getD b s.nx, H.size, H.defers, ?_, ⟨H.w.base, H.w.below, ?_, ?_, ?_, ?_, H.w.mem, ?_, H.w.memNew, H.w.memOld, ?_⟩, fun b hb => Nat.lt_of_lt_of_le (hlt b hb) hn⟩
  · intro k
    rcases tget_mem (t := s'.t) (k := k) rfl with h | h
    · rw [h]; trivial
    · have h1 := ht _ h
      have h2 := H.t k
      rw [h1] at h2
      exact h2.ren
  · exact fun b k hk => (H.w.blk _ _ (hb b k hk)).ren
  · exact fun b k hk ho hc => H.w.own _ _ (hb b k hk) ho hc
  · intro b k hk ho hne
    exact H.w.old _ _ (hb b k hk) ho (by simpa [Blk.ren] using hne)
  · intro b c k l hk hl ok ol cb cc hne
    refine H.w.apart _ _ _ _ (hb b k hk) (hb c l hl) ok ol cb cc ?_
    have h1 := hlt b (H.w.blk _ _ (hb b k hk)).here
    have h2 := hlt c (H.w.blk _ _ (hb c l hl)).here
    rw [List.getD_eq_getElem?_getD, List.getD_eq_getElem?_getD, List.getElem?_eq_getElem h1, List.getElem?_eq_getElem h2]
    exact fun e => hne ((List.getElem_inj hd).1 e)
  · exact fun b k hk ho hc => H.w.memOwn _ _ (hb b k hk) ho hc
  · intro j l hj
    have hjK : j < ro.K := by rw [← hpl]; exact (List.getElem?_eq_some_iff.1 hj).1
    have e : L.getD j s.nx = j := by rw [List.getD_eq_getElem?_getD, hK j hjK]; rfl
    have := H.w.pins j l hj
    refine ⟨?_, ?_⟩
    · show al (L.getD j s.nx); rw [e]; exact this.1
    · show ρ (L.getD j s.nx) = l; rw [e]; exact this.2

def refOf : AV → Nat
  | .s (.l (.sl b _ _)) => b
  | .s (.l (.p b _ _)) => b
  | _ => 0

/-- The same; block number k is the one that slot ks[k] speaks of. -/
theorem Wk.renS {ro : Cf} {s s' : St} (ks : List Nat) (hK : ∀ j, j < ro.K → (ks.map fun k => refOf (tget s.t k))[j]? = some j) (hn : ks.length ≤ s'.nx) (hd : (ks.map fun k => refOf (tget s.t k)).Nodup) (ht : ∀ p ∈ s'.t, tget s.t p.1 = p.2.ren fun b => (ks.map fun k => refOf (tget s.t k)).getD b s.nx) (hh : ∀ p ∈ s'.h, ∀ k, p.2 = some k → hget s.h ((ks.map fun k => refOf (tget s.t k)).getD p.1 s.nx) = some (k.ren fun b => (ks.map fun k => refOf (tget s.t k)).getD b s.nx)) : Wk ro s s' :=
  Wk.ren _ hK (by rw [List.length_map]; exact hn) hd ht hh

/-- nil is a slice of a block without elements -/
theorem Wk.nil {ro : Cf} {s : St} (k : Nat) (T : TypeId) (sz : Nat) (hk : tget s.t k = .s (.l (.v (.slice none 0 0)))) : Wk ro s ⟨s.nx + 1, (k, .s (.l (.sl s.nx 0 0))) :: s.t, (s.nx, some ⟨true, T, sz, []⟩) :: s.h⟩ := by
  intro n B w0 ρ al a w _ H
  have hid : ¬ al s.nx := fun h => Nat.lt_irrefl _ (H.al _ h)
  obtain ⟨ρ', E, e, H'⟩ := H.w.virtual hid T sz
  refine ⟨ρ', al1 al s.nx, H.size, H.defers, ?_, H', ?_⟩
  · intro j
    rw [tget]
    split
    · rename_i ej
      subst ej
      have := H.t k
      rw [hk] at this
      have hv : a.tmps.getD k undef = .slice none 0 0 := this
      rw [hv]
      exact ⟨.inr rfl, none, by rw [e]; rfl, by simp, fun h => by rw [e] at h; simp at h⟩
    · exact (H.t j).ext E
  · rintro b (hb | rfl)
    · have := H.al b hb; show b < s.nx + 1; omega
    · show _ < _ + 1; omega

/-- nil is a lasting slice without elements -/
theorem Wk.nilD {ro : Cf} {s : St} (k : Nat) (sz : Nat) (hk : tget s.t k = .s (.l (.v (.slice none 0 0)))) : Wk ro s ⟨s.nx, (k, .s (.l (.d (.sd sz [])))) :: s.t, s.h⟩ := by
  intro n B w0 ρ al a w _ H
  refine ⟨ρ, al, H.size, H.defers, ?_, H.w, H.al⟩
  intro j
  rw [tget]
  split
  · rename_i ej
    subst ej
    have := H.t k
    rw [hk] at this
    have hv : a.tmps.getD k undef = .slice none 0 0 := this
    rw [hv]
    simp only [ARep, SRep, LRep, DRep]
    exact ⟨none, 0, rfl, Nat.le_refl _, fun h => absurd rfl h⟩
  · exact H.t j

/-! ### What hangs on no block -/
def LV.flat : LV → Bool
  | .v _ => true
  | .d _ => true
  | _ => false
def SV.flat : SV → Bool
  | .l x => x.flat
  | .agg xs => xs.all (·.flat)
def AV.flat : AV → Bool
  | .s x => x.flat
  | .tup xs => xs.all (·.flat)
  | .fn _ f c => f.all (·.flat) && c.all (·.flat)
def LV.plain : LV → Bool
  | .v _ => true
  | _ => false
def SV.plain : SV → Bool
  | .l x => x.plain
  | .agg xs => xs.all (·.plain)
def AV.plain : AV → Bool
  | .s x => x.plain
  | .tup xs => xs.all (·.plain)
  | .fn _ f c => f.all (·.plain) && c.all (·.plain)

section
variable {ρ ρ' : Nat → Loc} {al al' : Al}
theorem LRep.flat (hM : al.M.le al'.M) {x : LV} {y : Value} (h : LRep ρ al x y) (hf : x.flat = true) : LRep ρ' al' x y := by
  cases x <;> first | exact DRep.mono hM h | exact h | cases hf
theorem LsRep.flat (hM : al.M.le al'.M) : ∀ {xs : List LV} {ys : List Value}, LsRep ρ al xs ys → xs.all (·.flat) = true → LsRep ρ' al' xs ys
  | [], [], _, _ => trivial
  | _ :: _, _ :: _, ⟨a, b, c⟩, hf => by
    simp only [List.all_cons, Bool.and_eq_true] at hf
    exact ⟨a, b.flat hM hf.1, LsRep.flat hM c hf.2⟩
theorem SRep.flat (hM : al.M.le al'.M) {x : SV} {y : Value} (h : SRep ρ al x y) (hf : x.flat = true) : SRep ρ' al' x y := by
  cases x with
  | l x => exact LRep.flat hM h hf
  | agg xs => obtain ⟨cs, e, h⟩ := h; exact ⟨cs, e, h.flat hM hf⟩
theorem SsRep.flat (hM : al.M.le al'.M) : ∀ {xs : List SV} {ys : List Value}, SsRep ρ al xs ys → xs.all (·.flat) = true → SsRep ρ' al' xs ys
  | [], [], _, _ => trivial
  | _ :: _, _ :: _, ⟨a, b⟩, hf => by
    simp only [List.all_cons, Bool.and_eq_true] at hf
    exact ⟨a.flat hM hf.1, SsRep.flat hM b hf.2⟩
theorem ARep.flat (hM : al.M.le al'.M) {x : AV} {y : Value} (h : ARep ρ al x y) (hf : x.flat = true) : ARep ρ' al' x y := by
  cases x with
  | s x => exact SRep.flat hM h hf
  | tup xs => obtain ⟨cs, e, h⟩ := h; exact ⟨cs, e, h.flat hM hf⟩
  | fn f a c =>
    obtain ⟨fs, cs, e, h, k⟩ := h
    simp only [AV.flat, Bool.and_eq_true] at hf
    exact ⟨fs, cs, e, h.flat hM hf.1, k.flat hM hf.2⟩
theorem AsRep.flat (hM : al.M.le al'.M) : ∀ {xs : List AV} {ys : List Value}, AsRep ρ al xs ys → xs.all (·.flat) = true → AsRep ρ' al' xs ys
  | [], [], _, _ => trivial
  | _ :: _, _ :: _, ⟨a, b⟩, hf => by
    simp only [List.all_cons, Bool.and_eq_true] at hf
    exact ⟨a.flat hM hf.1, AsRep.flat hM b hf.2⟩

theorem LRep.plain {x : LV} {y : Value} (h : LRep ρ al x y) (hf : x.plain = true) : LRep ρ' al' x y := by
  cases x <;> first | exact h | cases hf
theorem LsRep.plain : ∀ {xs : List LV} {ys : List Value}, LsRep ρ al xs ys → xs.all (·.plain) = true → LsRep ρ' al' xs ys
  | [], [], _, _ => trivial
  | _ :: _, _ :: _, ⟨a, b, c⟩, hf => by
    simp only [List.all_cons, Bool.and_eq_true] at hf
    exact ⟨a, b.plain hf.1, LsRep.plain c hf.2⟩
theorem SRep.plain {x : SV} {y : Value} (h : SRep ρ al x y) (hf : x.plain = true) : SRep ρ' al' x y := by
  cases x with
  | l x => exact LRep.plain h hf
  | agg xs => obtain ⟨cs, e, h⟩ := h; exact ⟨cs, e, h.plain hf⟩
theorem SsRep.plain : ∀ {xs : List SV} {ys : List Value}, SsRep ρ al xs ys → xs.all (·.plain) = true → SsRep ρ' al' xs ys
  | [], [], _, _ => trivial
  | _ :: _, _ :: _, ⟨a, b⟩, hf => by
    simp only [List.all_cons, Bool.and_eq_true] at hf
    exact ⟨a.plain hf.1, SsRep.plain b hf.2⟩
theorem ARep.plain {x : AV} {y : Value} (h : ARep ρ al x y) (hf : x.plain = true) : ARep ρ' al' x y := by
  cases x with
  | s x => exact SRep.plain h hf
  | tup xs => obtain ⟨cs, e, h⟩ := h; exact ⟨cs, e, h.plain hf⟩
  | fn f a c =>
    obtain ⟨fs, cs, e, h, k⟩ := h
    simp only [AV.plain, Bool.and_eq_true] at hf
    exact ⟨fs, cs, e, h.plain hf.1, k.plain hf.2⟩
end

/-! ### What is made lasting -/
def mapT {α β : Type} (g : α → Option (Prop × List Nat × β)) : List α → Option (Prop × List Nat × List β)
  | [] => some (True, [], [])
  | x :: r => match g x, mapT g r with
    | some (p, u, d), some (q, v, l) => some (p ∧ q, u ++ v, d :: l)
    | _, _ => none

theorem mapT_append {α β : Type} {g : α → Option (Prop × List Nat × β)} : ∀ {a b : List α}, mapT g (a ++ b) = match mapT g a, mapT g b with
    | some (p, u, d), some (q, v, l) => some (p ∧ q, u ++ v, d ++ l)
    | _, _ => none
  | [], b => by
    cases h : mapT g b with
    | none => simp [mapT, h]
    | some x => obtain ⟨q, v, l⟩ := x; simp [mapT, h]
  | x :: a, b => by
    rw [List.cons_append, mapT, mapT_append (a := a)]
    cases h1 : g x with
    | none => simp [mapT, h1]
    | some X =>
      obtain ⟨p, u, d⟩ := X
      cases h2 : mapT g a with
      | none => simp [mapT, h1, h2]
      | some Y =>
        obtain ⟨q, v, l⟩ := Y
        cases h3 : mapT g b with
        | none => simp [mapT, h1, h2]
        | some Z => obtain ⟨q', v', l'⟩ := Z; simp [mapT, h1, h2, and_assoc]

/-- A value of a cell as a deep one: under which condition, which blocks are made lasting, what it is. -/
def LV.toD (h : Heap) : Nat → LV → Option (Prop × List Nat × D)
  | _, .v x => some (True, [], .v x)
  | _, .d x => some (True, [], x)
  | f + 1, .sl b i n => match hget h b with
    | some k => if k.own = true then match mapT (mapT (LV.toD h f)) ((k.els.drop i).take n) with
        | some (q, u, ds) => some (i + n ≤ k.els.length ∧ q, b :: u, .sd k.sz ds)
        | none => none
        else none
    | none => none
  | f + 1, .p b i j => match hget h b with
    | some k => if k.own = true then match k.els[i]? with
        | some e => match mapT (LV.toD h f) (e.drop j) with
          | some (q, u, ds) => some (q, b :: u, .pd ds)
          | none => none
        | none => none
        else none
    | none => none
  | _, _ => none

theorem toD_ofD {h : Heap} {f : Nat} {x : D} : LV.toD h f (ofD x) = some (True, [], x) := by
  cases x <;> cases f <;> simp [ofD, LV.toD]
theorem mapT_ofDs {h : Heap} {f : Nat} : ∀ {xs : List D}, mapT (LV.toD h f) (ofDs xs) = some (True, [], xs)
  | [] => rfl
  | x :: xs => by
    have := mapT_ofDs (h := h) (f := f) (xs := xs)
    unfold ofDs at this ⊢
    rw [List.map_cons, mapT, toD_ofD, this]
    simp
theorem rows_ofDs {h : Heap} {f : Nat} : ∀ {els : List (List D)}, mapT (mapT (LV.toD h f)) (els.map ofDs) = some (True, [], els)
  | [] => rfl
  | e :: els => by
    rw [List.map_cons, mapT, mapT_ofDs, rows_ofDs (els := els)]
    simp

def SV.toD (h : Heap) (f : Nat) : SV → Option (Prop × List Nat × SV)
  | .l x => match x.toD h f with
    | some (p, u, d) => some (p, u, .l (ofD d))
    | none => none
  | .agg xs => match mapT (LV.toD h f) xs with
    | some (p, u, ds) => some (p, u, .agg (ofDs ds))
    | none => none
def AV.toD (h : Heap) (f : Nat) : AV → Option (Prop × List Nat × AV)
  | .s x => match x.toD h f with
    | some (p, u, d) => some (p, u, .s d)
    | none => none
  | .tup xs => match mapT (SV.toD h f) xs with
    | some (p, u, ds) => some (p, u, .tup ds)
    | none => none
  | .fn g a c => match mapT (LV.toD h f) a, mapT (LV.toD h f) c with
    | some (p, u, fd), some (q, v, cd) => some (p ∧ q, u ++ v, .fn g (ofDs fd) (ofDs cd))
    | _, _ => none

open Classical in
/-- the lasting memory, with these blocks -/
noncomputable def frzM (M : Mem) (ρ : Nat → Loc) (h : Heap) (U : List Nat) (w : World) : Mem := fun b o =>
  match M b o with
  | some y => some y
  | none => if ∃ c k, c ∈ U ∧ hget h c = some k ∧ k.own = true ∧ (ρ c).cap ≠ 0 ∧ (ρ c).blk = b then w.cell? ⟨b, o, none⟩ else none

section
variable {B : Base} {w0 : World} {ρ : Nat → Loc} {al : Al} {h : Heap} {w : World} {U : List Nat}

theorem frzM_le : al.M.le (frzM al.M ρ h U w) := fun b o y hy => by unfold frzM; rw [hy]
theorem frzM_some {M : Mem} {b o : Nat} {y : Value} (hy : frzM M ρ h U w b o = some y) : M b o = some y ∨ ((∃ c k, c ∈ U ∧ hget h c = some k ∧ k.own = true ∧ (ρ c).cap ≠ 0 ∧ (ρ c).blk = b) ∧ w.cell? ⟨b, o, none⟩ = some y) := by
  unfold frzM at hy
  split at hy
  · rename_i y' e; injection hy with hy; subst hy; exact .inl e
  · split at hy
    · rename_i hc; exact .inr ⟨hc, hy⟩
    · cases hy
theorem frzM_mem (H : WRep B w0 ρ al h w) {b o : Nat} {y : Value} (hy : frzM al.M ρ h U w b o = some y) : w.cell? ⟨b, o, none⟩ = some y :=
  (frzM_some hy).elim (H.mem b o y) (·.2)
theorem frzM_at (H : WRep B w0 ρ al h w) {c : Nat} {k : Blk} (hc : c ∈ U) (hk : hget h c = some k) (ho : k.own = true) (hcap : (ρ c).cap ≠ 0) {o : Nat} : frzM al.M ρ h U w (ρ c).blk o = w.cell? ⟨(ρ c).blk, o, none⟩ := by
  unfold frzM
  rw [H.memOwn c k hk ho hcap o]
  simp only
  rw [if_pos ⟨c, k, hc, hk, ho, hcap, rfl⟩]

theorem mapT_get {α β : Type} {g : α → Option (Prop × List Nat × β)} : ∀ {xs : List α} {p : Prop} {u : List Nat} {ds : List β}, mapT g xs = some (p, u, ds) → p → ds.length = xs.length ∧ ∀ (i : Nat) (d : β), ds[i]? = some d → ∃ x q v, xs[i]? = some x ∧ g x = some (q, v, d) ∧ q ∧ ∀ c ∈ v, c ∈ u
  | [], p, u, ds, h, _ => by
    simp only [mapT, Option.some.injEq, Prod.mk.injEq] at h
    obtain ⟨_, _, rfl⟩ := h
    exact ⟨rfl, fun i d hd => by simp at hd⟩
  | x :: xs, p, u, ds, h, hp => by
    simp only [mapT] at h
    split at h
    case h_2 => cases h
    rename_i q v d q' v' l h1 h2
    injection h with h
    injection h with e1 h
    injection h with e2 e3
    subst e1
    subst e2
    subst e3
    obtain ⟨g1, g2⟩ := mapT_get h2 hp.2
    refine ⟨by simp [g1], fun i d' hd => ?_⟩
    cases i with
    | zero =>
      simp at hd
      subst hd
      exact ⟨x, q, v, rfl, h1, hp.1, fun c hc => List.mem_append.2 (.inl hc)⟩
    | succ i =>
      obtain ⟨x', q2, v2, a1, a2, a3, a4⟩ := g2 i d' (by simpa using hd)
      exact ⟨x', q2, v2, by simpa using a1, a2, a3, fun c hc => List.mem_append.2 (.inr (a4 c hc))⟩

theorem toD_rep (H : WRep B w0 ρ al h w) : ∀ (f : Nat) {x : LV} {p : Prop} {u : List Nat} {d : D} {y : Value}, LV.toD h f x = some (p, u, d) → p → (∀ c ∈ u, c ∈ U) → LRep ρ al x y → DRep (frzM al.M ρ h U w) d y := by
  intro f
  induction f with
  | zero =>
    intro x p u d y hx hp hu hr
    cases x with
    | v x => simp only [LV.toD, Option.some.injEq, Prod.mk.injEq] at hx; obtain ⟨_, _, rfl⟩ := hx; simp only [DRep]; exact hr
    | d x => simp only [LV.toD, Option.some.injEq, Prod.mk.injEq] at hx; obtain ⟨_, _, rfl⟩ := hx; exact DRep.mono frzM_le hr
    | sl b i n => simp only [LV.toD] at hx; cases hx
    | p b i j => simp only [LV.toD] at hx; cases hx
    | any => simp only [LV.toD] at hx; cases hx
  | succ f ih =>
    intro x p u d y hx hp hu hr
    cases x with
    | v x => simp only [LV.toD, Option.some.injEq, Prod.mk.injEq] at hx; obtain ⟨_, _, rfl⟩ := hx; simp only [DRep]; exact hr
    | d x => simp only [LV.toD, Option.some.injEq, Prod.mk.injEq] at hx; obtain ⟨_, _, rfl⟩ := hx; exact DRep.mono frzM_le hr
    | any => simp only [LV.toD] at hx; cases hx
    | p b i j =>
      simp only [LV.toD] at hx
      split at hx
      case h_2 => cases hx
      rename_i k hk
      split at hx
      case isFalse => cases hx
      rename_i ho
      split at hx
      case h_2 => cases hx
      rename_i e he
      split at hx
      case h_2 => cases hx
      rename_i p' u' ds hm
      injection hx with hx
      injection hx with e1 hx
      injection hx with e2 e3
      subst e1
      subst e2
      subst e3
      obtain ⟨_, rfl⟩ := hr
      have Hb := H.blk b k hk
      have hcap : (ρ b).cap ≠ 0 := by have := Hb.cap; have := (List.getElem?_eq_some_iff.1 he).1; omega
      obtain ⟨g1, g2⟩ := mapT_get hm hp
      simp only [DRep]
      refine ⟨_, _, rfl, DsAt.of fun m d hd => ?_⟩
      obtain ⟨x, q, v, a1, a2, a3, a4⟩ := g2 m d hd
      rw [List.getElem?_drop] at a1
      obtain ⟨y, b1, b2, b3⟩ := Hb.cells i (j + m) x (cellAt_some.2 ⟨e, he, a1⟩)
      refine ⟨y, ?_, b2, ih a2 a3 (fun c hc => hu c (List.mem_cons.2 (.inr (a4 c hc)))) b3⟩
      rw [frzM_at H (hu b (List.mem_cons.2 (.inl rfl))) hk ho hcap, ← b1]
      congr 2
      omega
    | sl b i n =>
      simp only [LV.toD] at hx
      split at hx
      case h_2 => cases hx
      rename_i k hk
      split at hx
      case isFalse => cases hx
      rename_i ho
      split at hx
      case h_2 => cases hx
      rename_i p' u' ds hm
      injection hx with hx
      injection hx with e1 hx
      injection hx with e2 e3
      subst e1
      subst e2
      subst e3
      obtain ⟨hin, hp⟩ := hp
      obtain ⟨_, A, rfl, hc, hA⟩ := hr
      have Hb := H.blk b k hk
      obtain ⟨g1, g2⟩ := mapT_get hm hp
      have hlen : ds.length = n := by rw [g1]; simp; omega
      simp only [DRep]
      refine ⟨A, (ρ b).cap - i, by rw [hlen], by rw [hlen]; omega, fun hne => ?_⟩
      have hn : 0 < n := by rw [← hlen]; exact List.length_pos_iff.2 hne
      have hcap : (ρ b).cap ≠ 0 := by omega
      have hoff := (Hb.room ho).1
      refine ⟨(ρ b).blk, (ρ b).off + i * (ρ b).sz, hA (by omega), DssAt.of fun m e he => ?_⟩
      obtain ⟨r, q, v, a1, a2, a3, a4⟩ := g2 m e he
      rw [List.getElem?_take] at a1
      split at a1
      case isFalse => cases a1
      rw [List.getElem?_drop] at a1
      obtain ⟨c1, c2⟩ := mapT_get a2 a3
      refine ⟨by rw [c1]; exact Hb.len r (List.mem_of_getElem? a1), DsAt.of fun j d hd => ?_⟩
      obtain ⟨x, q2, v2, d1, d2, d3, d4⟩ := c2 j d hd
      obtain ⟨y, b1, b2, b3⟩ := Hb.cells (i + m) j x (cellAt_some.2 ⟨r, a1, d1⟩)
      refine ⟨y, ?_, b2, ih d2 d3 (fun c hc => hu c (List.mem_cons.2 (.inr (a4 c (d4 c hc))))) b3⟩
      rw [frzM_at H (hu b (List.mem_cons.2 (.inl rfl))) hk ho hcap, ← b1]
      congr 2
      rw [Nat.add_mul, Hb.sz]
      omega

theorem mapT_rep (H : WRep B w0 ρ al h w) {f : Nat} {ρ2 : Nat → Loc} {al2 : Al} (hM : al2.M = frzM al.M ρ h U w) : ∀ {xs : List LV} {p : Prop} {u : List Nat} {ds : List D} {ys : List Value}, mapT (LV.toD h f) xs = some (p, u, ds) → p → (∀ c ∈ u, c ∈ U) → LsRep ρ al xs ys → LsRep ρ2 al2 (ofDs ds) ys
  | [], p, u, ds, [], hx, _, _, _ => by
    simp only [mapT, Option.some.injEq, Prod.mk.injEq] at hx
    obtain ⟨_, _, rfl⟩ := hx
    trivial
  | x :: xs, p, u, ds, y :: ys, hx, hp, hu, ⟨a, b, c⟩ => by
    simp only [mapT] at hx
    split at hx
    case h_2 => cases hx
    rename_i q v d q' v' l h1 h2
    injection hx with hx
    injection hx with e1 hx
    injection hx with e2 e3
    subst e1
    subst e2
    subst e3
    exact ⟨a, ofD_rep.2 (hM ▸ toD_rep H f h1 hp.1 (fun c hc => hu c (List.mem_append.2 (.inl hc))) b), mapT_rep H hM h2 hp.2 (fun c hc => hu c (List.mem_append.2 (.inr hc))) c⟩

theorem SV.toD_rep (H : WRep B w0 ρ al h w) {f : Nat} {ρ2 : Nat → Loc} {al2 : Al} (hM : al2.M = frzM al.M ρ h U w) {x x' : SV} {p : Prop} {u : List Nat} {y : Value} (hx : SV.toD h f x = some (p, u, x')) (hp : p) (hu : ∀ c ∈ u, c ∈ U) (hr : SRep ρ al x y) : SRep ρ2 al2 x' y := by
  cases x with
  | l x =>
    simp only [SV.toD] at hx
    split at hx
    case h_2 => cases hx
    rename_i p' u' d h1
    injection hx with hx
    injection hx with e1 hx
    injection hx with e2 e3
    subst e1
    subst e2
    subst e3
    exact ofD_rep.2 (hM ▸ Go.Proofs.YtcdbldakjepjiaaDoor.toD_rep H f h1 hp hu hr)
  | agg xs =>
    simp only [SV.toD] at hx
    split at hx
    case h_2 => cases hx
    rename_i p' u' d h1
    injection hx with hx
    injection hx with e1 hx
    injection hx with e2 e3
    subst e1
    subst e2
    subst e3
    obtain ⟨cs, rfl, hr⟩ := hr
    exact ⟨cs, rfl, mapT_rep H hM h1 hp hu hr⟩

theorem mapS_rep (H : WRep B w0 ρ al h w) {f : Nat} {ρ2 : Nat → Loc} {al2 : Al} (hM : al2.M = frzM al.M ρ h U w) : ∀ {xs : List SV} {p : Prop} {u : List Nat} {ds : List SV} {ys : List Value}, mapT (SV.toD h f) xs = some (p, u, ds) → p → (∀ c ∈ u, c ∈ U) → SsRep ρ al xs ys → SsRep ρ2 al2 ds ys
  | [], p, u, ds, [], hx, _, _, _ => by
    simp only [mapT, Option.some.injEq, Prod.mk.injEq] at hx
    obtain ⟨_, _, rfl⟩ := hx
    trivial
  | x :: xs, p, u, ds, y :: ys, hx, hp, hu, ⟨a, b⟩ => by
    simp only [mapT] at hx
    split at hx
    case h_2 => cases hx
    rename_i q v d q' v' l h1 h2
    injection hx with hx
    injection hx with e1 hx
    injection hx with e2 e3
    subst e1
    subst e2
    subst e3
    exact ⟨SV.toD_rep H hM h1 hp.1 (fun c hc => hu c (List.mem_append.2 (.inl hc))) a, mapS_rep H hM h2 hp.2 (fun c hc => hu c (List.mem_append.2 (.inr hc))) b⟩

theorem AV.toD_rep (H : WRep B w0 ρ al h w) {f : Nat} {ρ2 : Nat → Loc} {al2 : Al} (hM : al2.M = frzM al.M ρ h U w) {x x' : AV} {p : Prop} {u : List Nat} {y : Value} (hx : AV.toD h f x = some (p, u, x')) (hp : p) (hu : ∀ c ∈ u, c ∈ U) (hr : ARep ρ al x y) : ARep ρ2 al2 x' y := by
  cases x with
  | s x =>
    simp only [AV.toD] at hx
    split at hx
    case h_2 => cases hx
    rename_i p' u' d h1
    injection hx with hx
    injection hx with e1 hx
    injection hx with e2 e3
    subst e1
    subst e2
    subst e3
    exact SV.toD_rep H hM h1 hp hu hr
  | tup xs =>
    simp only [AV.toD] at hx
    split at hx
    case h_2 => cases hx
    rename_i p' u' d h1
    injection hx with hx
    injection hx with e1 hx
    injection hx with e2 e3
    subst e1
    subst e2
    subst e3
    obtain ⟨cs, rfl, hr⟩ := hr
    exact ⟨cs, rfl, mapS_rep H hM h1 hp hu hr⟩
  | fn g a c =>
    simp only [AV.toD] at hx
    split at hx
    case h_2 => cases hx
    rename_i p' u' fd q' v' cd h1 h2
    injection hx with hx
    injection hx with e1 hx
    injection hx with e2 e3
    subst e1
    subst e2
    subst e3
    obtain ⟨fs, cs, rfl, r1, r2⟩ := hr
    exact ⟨fs, cs, rfl, mapT_rep H hM h1 hp.1 (fun c hc => hu c (List.mem_append.2 (.inl hc))) r1, mapT_rep H hM h2 hp.2 (fun c hc => hu c (List.mem_append.2 (.inr hc))) r2⟩

theorem views_rep (H : WRep B w0 ρ al h w) {f : Nat} {ρ2 : Nat → Loc} {al2 : Al} (hM : al2.M = frzM al.M ρ h U w) : ∀ {xs : List AV} {p : Prop} {u : List Nat} {ds : List AV} {ys : List Value}, mapT (AV.toD h f) xs = some (p, u, ds) → p → (∀ c ∈ u, c ∈ U) → AsRep ρ al xs ys → AsRep ρ2 al2 ds ys
  | [], p, u, ds, [], hx, _, _, _ => by
    simp only [mapT, Option.some.injEq, Prod.mk.injEq] at hx
    obtain ⟨_, _, rfl⟩ := hx
    trivial
  | x :: xs, p, u, ds, y :: ys, hx, hp, hu, ⟨a, b⟩ => by
    simp only [mapT] at hx
    split at hx
    case h_2 => cases hx
    rename_i q v d q' v' l h1 h2
    injection hx with hx
    injection hx with e1 hx
    injection hx with e2 e3
    subst e1
    subst e2
    subst e3
    exact ⟨AV.toD_rep H hM h1 hp.1 (fun c hc => hu c (List.mem_append.2 (.inl hc))) a, views_rep H hM h2 hp.2 (fun c hc => hu c (List.mem_append.2 (.inr hc))) b⟩

end

end Go.Proofs.YtcdbldakjepjiaaDoor
