/- The value logic, part 9: other numbers for the blocks; a function's start and end. No program in sight. -/
import Derived.Test.YthhlghoeapjagaaV8
set_option linter.unusedVariables false
set_option linter.unusedSimpArgs false
namespace Go.Proofs.Ythhlghoeapjagaa
open Go.RowKit

def LV.ren (g : Nat → Nat) : LV → LV
  | .v x => .v x
  | .sl b i n => .sl (g b) i n
  | .p b i j => .p (g b) i j
  | .any => .any
def SV.ren (g : Nat → Nat) : SV → SV
  | .l x => .l (x.ren g)
  | .agg xs => .agg (xs.map (·.ren g))
def AV.ren (g : Nat → Nat) : AV → AV
  | .s x => .s (x.ren g)
  | .tup xs => .tup (xs.map (·.ren g))
def Blk.ren (g : Nat → Nat) (k : Blk) : Blk := ⟨k.own, k.T, k.sz, k.els.map (·.map (·.ren g))⟩

section
variable {ρ : Nat → Loc} {al : Nat → Prop} {g : Nat → Nat}
theorem LRep.ren {x : LV} {y : Value} (h : LRep ρ al (x.ren g) y) : LRep (fun b => ρ (g b)) (fun b => al (g b)) x y := by
  cases x <;> exact h
theorem LsRep.ren : ∀ {xs : List LV} {ys : List Value}, LsRep ρ al (xs.map (·.ren g)) ys → LsRep (fun b => ρ (g b)) (fun b => al (g b)) xs ys
  | [], [], _ => trivial
  | [], _ :: _, h => h.elim
  | _ :: _, [], h => h.elim
  | _ :: _, _ :: _, ⟨a, b, c⟩ => ⟨a, b.ren, LsRep.ren c⟩
theorem SRep.ren {x : SV} {y : Value} (h : SRep ρ al (x.ren g) y) : SRep (fun b => ρ (g b)) (fun b => al (g b)) x y := by
  cases x with
  | l x => exact LRep.ren h
  | agg xs => obtain ⟨cs, e, h⟩ := h; exact ⟨cs, e, h.ren⟩
theorem SsRep.ren : ∀ {xs : List SV} {ys : List Value}, SsRep ρ al (xs.map (·.ren g)) ys → SsRep (fun b => ρ (g b)) (fun b => al (g b)) xs ys
  | [], [], _ => trivial
  | [], _ :: _, h => h.elim
  | _ :: _, [], h => h.elim
  | _ :: _, _ :: _, ⟨a, b⟩ => ⟨a.ren, SsRep.ren b⟩
theorem ARep.ren {x : AV} {y : Value} (h : ARep ρ al (x.ren g) y) : ARep (fun b => ρ (g b)) (fun b => al (g b)) x y := by
  cases x with
  | s x => exact SRep.ren h
  | tup xs => obtain ⟨cs, e, h⟩ := h; exact ⟨cs, e, h.ren⟩

theorem cellAt_ren {els : List (List LV)} {i j : Nat} {x : LV} (h : cellAt els i j = some x) : cellAt (els.map (·.map (·.ren g))) i j = some (x.ren g) := by
  obtain ⟨e, h1, h2⟩ := cellAt_some.1 h
  exact cellAt_some.2 ⟨e.map (·.ren g), by rw [List.getElem?_map, h1]; rfl, by rw [List.getElem?_map, h2]; rfl⟩

theorem BRep.ren {w : World} {b : Nat} {k : Blk} (h : BRep ρ al w (g b) (k.ren g)) : BRep (fun b => ρ (g b)) (fun b => al (g b)) w b k :=
  ⟨h.here, h.own, h.sz, fun e he => by have := h.len (e.map (·.ren g)) (List.mem_map.2 ⟨e, he, rfl⟩); simpa [Blk.ren] using this, by simpa [Blk.ren] using h.cap,
    fun i j x hx => by
      obtain ⟨y, h1, h2, h3⟩ := h.cells i j _ (cellAt_ren hx)
      exact ⟨y, h1, h2, h3.ren⟩, h.room⟩

theorem tget_mem : ∀ {t : Tmps} {k : Nat} {A : AV}, tget t k = A → A = .s (.l .any) ∨ (k, A) ∈ t
  | [], k, A, h => .inl h.symm
  | (j, x) :: r, k, A, h => by
    rw [tget] at h
    split at h
    · rename_i e; subst e; subst h; exact .inr (by simp)
    · rcases tget_mem h with h | h
      · exact .inl h
      · exact .inr (by simp [h])

theorem hget_mem : ∀ {h : Heap} {b : Nat} {k : Blk}, hget h b = some k → (b, some k) ∈ h
  | [], _, _, h => by cases h
  | (j, x) :: r, b, k, h => by
    rw [hget] at h
    split at h
    · rename_i e; subst e; subst h; simp
    · simp [hget_mem h]
end

/-- The blocks have other numbers now: number k was L[k]; what isn't named is forgotten. -/
theorem Wk.ren {s s' : St} (L : List Nat) (hn : s'.nx = L.length) (hd : L.Nodup) (ht : ∀ p ∈ s'.t, tget s.t p.1 = p.2.ren fun b => L.getD b s.nx) (hh : ∀ p ∈ s'.h, ∀ k, p.2 = some k → hget s.h (L.getD p.1 s.nx) = some (k.ren fun b => L.getD b s.nx)) : Wk s s' := by
  intro n B w0 ρ al a w H
  have hno : ¬ al s.nx := fun h => Nat.lt_irrefl _ (H.al _ h)
  have hlt : ∀ b, al (L.getD b s.nx) → b < L.length := by
    intro b hb
    rcases Nat.lt_or_ge b L.length with h | h
    · exact h
    · rw [List.getD_eq_getElem?_getD, List.getElem?_eq_none h] at hb
      exact (hno hb).elim
  have hb : ∀ b k, hget s'.h b = some k → hget s.h (L.getD b s.nx) = some (k.ren fun b => L.getD b s.nx) := fun b k hk => hh _ (hget_mem hk) k rfl
  refine ⟨fun b => ρ (L.getD b s.nx), fun b => al (L.getD b s.nx), H.size, H.defers, ?_, ⟨H.w.base, H.w.below, ?_, ?_, ?_, ?_⟩, fun b hb => by rw [hn]; exact hlt b hb⟩
  · intro k
    rcases tget_mem (t := s'.t) (k := k) rfl with h | h
    · rw [h]; trivial
    · have h1 := ht _ h
      have h2 := H.t k
      rw [h1] at h2
      exact h2.ren
  · exact fun b k hk => (H.w.blk _ _ (hb b k hk)).ren
  · exact fun b k hk ho hc => H.w.own _ _ (hb b k hk) ho hc
  · intro b k hk ho hne
    exact H.w.old _ _ (hb b k hk) ho (by simpa [Blk.ren] using hne)
  · intro b c k l hk hl ok ol cb cc hne
    refine H.w.apart _ _ _ _ (hb b k hk) (hb c l hl) ok ol cb cc ?_
    have h1 := hlt b (H.w.blk _ _ (hb b k hk)).here
    have h2 := hlt c (H.w.blk _ _ (hb c l hl)).here
    rw [List.getD_eq_getElem?_getD, List.getD_eq_getElem?_getD, List.getElem?_eq_getElem h1, List.getElem?_eq_getElem h2]
    exact fun e => hne ((List.getElem_inj hd).1 e)

def refOf : AV → Nat
  | .s (.l (.sl b _ _)) => b
  | .s (.l (.p b _ _)) => b
  | _ => 0

/-- The same; block number k is the one that slot ks[k] speaks of. -/
theorem Wk.renS {s s' : St} (ks : List Nat) (hn : s'.nx = ks.length) (hd : (ks.map fun k => refOf (tget s.t k)).Nodup) (ht : ∀ p ∈ s'.t, tget s.t p.1 = p.2.ren fun b => (ks.map fun k => refOf (tget s.t k)).getD b s.nx) (hh : ∀ p ∈ s'.h, ∀ k, p.2 = some k → hget s.h ((ks.map fun k => refOf (tget s.t k)).getD p.1 s.nx) = some (k.ren fun b => (ks.map fun k => refOf (tget s.t k)).getD b s.nx)) : Wk s s' :=
  Wk.ren _ (by rw [hn, List.length_map]) hd ht hh

/-- nil is a slice of a block without elements -/
theorem Wk.nil {s : St} (k : Nat) (T : TypeId) (sz : Nat) (hk : tget s.t k = .s (.l (.v (.slice none 0 0)))) : Wk s ⟨s.nx + 1, (k, .s (.l (.sl s.nx 0 0))) :: s.t, (s.nx, some ⟨true, T, sz, []⟩) :: s.h⟩ := by
  intro n B w0 ρ al a w H
  have hid : ¬ al s.nx := fun h => Nat.lt_irrefl _ (H.al _ h)
  obtain ⟨ρ', E, e, H'⟩ := H.w.virtual hid T sz
  refine ⟨ρ', al1 al s.nx, H.size, H.defers, ?_, H', ?_⟩
  · intro j
    rw [tget]
    split
    · rename_i ej
      subst ej
      have := H.t k
      rw [hk] at this
      have hv : a.tmps.getD k undef = .slice none 0 0 := this
      rw [hv]
      exact ⟨.inr rfl, none, by rw [e]; rfl, by simp, fun h => by rw [e] at h; simp at h⟩
    · exact (H.t j).ext E
  · rintro b (hb | rfl)
    · have := H.al b hb; show b < s.nx + 1; omega
    · show _ < _ + 1; omega

theorem Wk.size {s s' : St} (h : Wk s s') : Wk s s' := h

/-! ### A function's start -/
def LV.flat : LV → Bool
  | .v _ => true
  | _ => false
def SV.flat : SV → Bool
  | .l x => x.flat
  | .agg xs => xs.all (·.flat)
def AV.flat : AV → Bool
  | .s x => x.flat
  | .tup xs => xs.all (·.flat)

section
variable {ρ ρ' : Nat → Loc} {al al' : Nat → Prop}
theorem LRep.flat {x : LV} {y : Value} (h : LRep ρ al x y) (hf : x.flat = true) : LRep ρ' al' x y := by
  cases x <;> first | exact h | cases hf
theorem LsRep.flat : ∀ {xs : List LV} {ys : List Value}, LsRep ρ al xs ys → xs.all (·.flat) = true → LsRep ρ' al' xs ys
  | [], [], _, _ => trivial
  | _ :: _, _ :: _, ⟨a, b, c⟩, hf => by
    simp only [List.all_cons, Bool.and_eq_true] at hf
    exact ⟨a, b.flat hf.1, LsRep.flat c hf.2⟩
theorem SRep.flat {x : SV} {y : Value} (h : SRep ρ al x y) (hf : x.flat = true) : SRep ρ' al' x y := by
  cases x with
  | l x => exact LRep.flat h hf
  | agg xs => obtain ⟨cs, e, h⟩ := h; exact ⟨cs, e, h.flat hf⟩
theorem SsRep.flat : ∀ {xs : List SV} {ys : List Value}, SsRep ρ al xs ys → xs.all (·.flat) = true → SsRep ρ' al' xs ys
  | [], [], _, _ => trivial
  | _ :: _, _ :: _, ⟨a, b⟩, hf => by
    simp only [List.all_cons, Bool.and_eq_true] at hf
    exact ⟨a.flat hf.1, SsRep.flat b hf.2⟩
theorem ARep.flat {x : AV} {y : Value} (h : ARep ρ al x y) (hf : x.flat = true) : ARep ρ' al' x y := by
  cases x with
  | s x => exact SRep.flat h hf
  | tup xs => obtain ⟨cs, e, h⟩ := h; exact ⟨cs, e, h.flat hf⟩
end

/-- An argument as the function sees it: plain; or a slice, all of whose elements are plain, as block number j. -/
inductive View1 (h : Heap) (j : Nat) : AV → AV → Heap → Prop where
  | flat (A : AV) (hf : A.flat = true) : View1 h j A A []
  | plain (A A' : AV) (v : Value) (h1 : flatOf A = some v) (h2 : flatOf A' = some v) : View1 h j A A' []
  | slice (T : TypeId) (sz b i : Nat) (k : Blk) (els : List (List LV)) (hk : hget h b = some k) (hs : k.sz = sz) (he : els = (k.els.drop i).take els.length) (hl : i + els.length ≤ k.els.length) (hf : ∀ e ∈ els, e.all (·.flat) = true) :
      View1 h j (.s (.l (.sl b i els.length))) (.s (.l (.sl j 0 els.length))) [(j, some ⟨false, T, sz, els⟩)]
  | nil (T : TypeId) (sz : Nat) : View1 h j (.s (.l (.v (.slice none 0 0)))) (.s (.l (.sl j 0 0))) [(j, some ⟨false, T, sz, []⟩)]

inductive Views (h : Heap) : Nat → List AV → List AV → Heap → Prop where
  | nil (j : Nat) : Views h j [] [] []
  | cons {j : Nat} {A A' : AV} {r r' : List AV} {hb hr : Heap} (h1 : View1 h j A A' hb) (h2 : Views h (j + 1) r r' hr) : Views h j (A :: r) (A' :: r') (hb ++ hr)

def zipT : Nat → List AV → Tmps
  | _, [] => []
  | j, A :: r => (j, A) :: zipT (j + 1) r

section
variable {B : Nat} {w0 : World} {ρ : Nat → Loc} {al : Nat → Prop} {h : Heap} {w : World}

theorem flatLs_one {ρ : Nat → Loc} {al : Nat → Prop} : ∀ {xs : List LV} {l : List Value}, flatLs xs = some l → LsRep ρ al xs l
  | [], l, h => by simp [flatLs] at h; subst h; trivial
  | .v x :: r, l, h => by
    simp only [flatLs] at h
    split at h
    case isFalse => cases h
    rename_i h1
    cases hr : flatLs r with
    | none => simp [hr] at h
    | some q =>
      simp [hr] at h
      subst h
      exact ⟨h1, rfl, flatLs_one hr⟩
  | .sl b i n :: r, l, h => by simp [flatLs] at h
  | .p b i j :: r, l, h => by simp [flatLs] at h
  | .any :: r, l, h => by simp [flatLs] at h

theorem flat_rep {ρ : Nat → Loc} {al : Nat → Prop} {A : AV} {v : Value} (h : flatOf A = some v) : ARep ρ al A v := by
  cases A with
  | tup _ => cases h
  | s x =>
    cases x with
    | l x =>
      cases x with
      | v x => injection h with h; subst h; exact rfl
      | sl b i n => cases h
      | p b i j => cases h
      | any => cases h
    | agg xs =>
      simp only [flatOf, Option.map_eq_some_iff] at h
      obtain ⟨l, h1, rfl⟩ := h
      exact ⟨l, rfl, flatLs_one h1⟩

theorem view1_rep (H : WRep B w0 ρ al h w) {j : Nat} {A A' : AV} {hb : Heap} (hv : View1 h j A A' hb) {v : Value} (hA : ARep ρ al A v) :
    ∃ l : Loc, ∀ (ρv : Nat → Loc) (alv : Nat → Prop), ρv j = l → alv j → ARep ρv alv A' v ∧ ∀ b k, hget hb b = some k → b = j ∧ BRep ρv alv w b k ∧ k.own = false ∧ (k.els ≠ [] → (ρv b).blk < w.heap.size) := by
  cases hv with
  | plain _ _ u h1 h2 =>
    rw [flatOf_rep h1 hA]
    exact ⟨⟨0, 0, 0, 0, false⟩, fun ρv alv _ _ => ⟨flat_rep h2, fun b k hk => by cases hk⟩⟩
  | flat _ hf => exact ⟨⟨0, 0, 0, 0, false⟩, fun ρv alv _ _ => ⟨hA.flat hf, fun b k hk => by cases hk⟩⟩
  | slice T sz b i k els hk hs he hl hf =>
    have Hb := H.blk b k hk
    obtain ⟨-, A, rfl, hcap, hadr⟩ := hA
    refine ⟨⟨(ρ b).blk, (ρ b).off + i * (ρ b).sz, sz, (ρ b).cap - i, false⟩, fun ρv alv e hj => ⟨⟨hj, A, by rw [e]; simp, by rw [e]; simp; omega, fun h0 => ?_⟩, ?_⟩⟩
    · rw [e] at h0 ⊢
      simp at h0
      rw [hadr (by omega)]
      simp
    · intro b' k' hb'
      rw [hget] at hb'
      split at hb'
      case isFalse => cases hb'
      rename_i ej
      subst ej
      injection hb' with hb'
      subst hb'
      refine ⟨rfl, ⟨hj, by rw [e], by rw [e], ?_, by rw [e]; simp; omega, ?_, fun h0 => by cases h0⟩, rfl, ?_⟩
      · intro u hu
        rw [he] at hu
        rw [← hs]
        exact Hb.len u (List.mem_of_mem_drop (List.mem_of_mem_take hu))
      · intro i' j' x hx
        obtain ⟨u, hu, hx'⟩ := cellAt_some.1 hx
        have hu0 := hu
        rw [he, List.getElem?_take] at hu
        split at hu
        case isFalse => cases hu
        rw [List.getElem?_drop] at hu
        obtain ⟨y, h1, h2, h3⟩ := Hb.cells (i + i') j' x (cellAt_some.2 ⟨u, hu, hx'⟩)
        refine ⟨y, ?_, h2, h3.flat ?_⟩
        · rw [e]
          simp only
          rw [← hs, ← Hb.sz]
          rw [← h1]
          congr 2
          rw [Nat.add_mul]
          omega
        · exact List.all_eq_true.1 (hf u (List.mem_of_getElem? hu0)) x (List.mem_of_getElem? hx')
      · intro hne
        rw [e]
        refine H.lt hk (.inl ?_)
        intro h0
        rw [h0] at hl
        simp at hl
        exact hne hl.2
  | nil T sz =>
    have : v = .slice none 0 0 := hA
    subst this
    refine ⟨⟨0, 0, sz, 0, false⟩, fun ρv alv e hj => ⟨⟨hj, none, by rw [e]; rfl, by simp, fun h0 => by rw [e] at h0; simp at h0⟩, ?_⟩⟩
    intro b' k' hb'
    rw [hget] at hb'
    split at hb'
    case isFalse => cases hb'
    rename_i ej
    subst ej
    injection hb' with hb'
    subst hb'
    exact ⟨rfl, ⟨hj, by rw [e], by rw [e], by simp, by simp, fun i j x hx => by simp [cellAt] at hx, fun h0 => by cases h0⟩, rfl, fun h0 => absurd rfl h0⟩

theorem hget_append {h1 h2 : Heap} {b : Nat} {k : Blk} : hget (h1 ++ h2) b = some k → hget h1 b = some k ∨ hget h2 b = some k := by
  induction h1 with
  | nil => exact fun h => .inr h
  | cons p r ih =>
    obtain ⟨j, x⟩ := p
    intro h
    simp only [List.cons_append, hget] at h ⊢
    split at h
    · rename_i e; rw [if_pos e]; exact .inl h
    · rename_i e; rw [if_neg e]; exact ih h

theorem views_rep (H : WRep B w0 ρ al h w) {j : Nat} {args args' : List AV} {hs : Heap} (hv : Views h j args args' hs) : ∀ {vals : List Value}, AsRep ρ al args vals →
    ∃ f : Nat → Loc, ∀ (ρv : Nat → Loc) (alv : Nat → Prop), (∀ k, j ≤ k → k < j + args.length → ρv k = f k ∧ alv k) → AsRep ρv alv args' vals ∧ ∀ b k, hget hs b = some k → j ≤ b ∧ BRep ρv alv w b k ∧ k.own = false ∧ (k.els ≠ [] → (ρv b).blk < w.heap.size) := by
  induction hv with
  | nil j =>
    intro vals hA
    cases vals with
    | cons _ _ => exact hA.elim
    | nil => exact ⟨fun _ => ⟨0, 0, 0, 0, false⟩, fun _ _ _ => ⟨trivial, fun b k hk => by cases hk⟩⟩
  | @cons j A A' r r' hb hr h1 h2 ih =>
    intro vals hA
    cases vals with
    | nil => exact hA.elim
    | cons v vs =>
      obtain ⟨l, hl⟩ := view1_rep H h1 hA.1
      obtain ⟨f, hf⟩ := ih hA.2
      refine ⟨fun k => if k = j then l else f k, fun ρv alv hk => ?_⟩
      have hj := hk j (Nat.le_refl _) (by simp)
      dsimp only at hj
      rw [if_pos rfl] at hj
      obtain ⟨g1, g2⟩ := hl ρv alv hj.1 hj.2
      obtain ⟨g3, g4⟩ := hf ρv alv fun k h1 h2 => by
        have := hk k (by omega) (by simp only [List.length_cons]; omega)
        dsimp only at this
        rw [if_neg (by omega)] at this
        exact this
      refine ⟨⟨g1, g3⟩, fun b k hbk => ?_⟩
      rcases hget_append hbk with h | h
      · obtain ⟨e, rest⟩ := g2 b k h
        exact ⟨by omega, rest⟩
      · obtain ⟨e, rest⟩ := g4 b k h
        exact ⟨by omega, rest⟩

theorem rep_getD (j : Nat) (vs : List Value) (k : Nat) : (List.replicate j undef ++ vs).getD k undef = if k < j then undef else vs.getD (k - j) undef := by
  rw [List.getD_eq_getElem?_getD, List.getElem?_append]
  simp only [List.length_replicate]
  split
  · rename_i h
    rw [List.getElem?_replicate, if_pos h]; rfl
  · rw [List.getD_eq_getElem?_getD]

theorem zipT_rep : ∀ {args : List AV} {vals : List Value} (j : Nat), AsRep ρ al args vals → ∀ k, ARep ρ al (tget (zipT j args) k) ((List.replicate j undef ++ vals).getD k undef)
  | [], [], j, _, k => trivial
  | A :: r, v :: vs, j, ⟨a, b⟩, k => by
    have := zipT_rep (j + 1) b k
    rw [rep_getD] at this ⊢
    rw [zipT, tget]
    split
    · rename_i e
      subst e
      rw [if_neg (Nat.lt_irrefl _), Nat.sub_self]
      exact a
    · rename_i hne
      rcases Nat.lt_or_ge k j with h | h
      · rw [if_pos h]
        rw [if_pos (by omega)] at this
        exact this
      · rw [if_neg (by omega)]
        rw [if_neg (by omega)] at this
        rw [show k - j = (k - (j + 1)) + 1 by omega, List.getD_cons_succ]
        exact this

theorem enter_rep {n : Nat} (H : WRep B w0 ρ al h w) {args args' : List AV} {hs : Heap} (hv : Views h 0 args args' hs) {vals : List Value} (hA : AsRep ρ al args vals) (hn : vals.length ≤ n) :
    ∃ ρv alv, RepS n w.heap.size w ρv alv ⟨args.length, zipT 0 args', hs⟩ { tmps := vals.toArray ++ Array.replicate (n - vals.toArray.size) undef, defers := [] } w := by
  obtain ⟨f, hf⟩ := views_rep H hv hA
  obtain ⟨g1, g2⟩ := hf f (fun b => b < args.length) fun k _ h2 => ⟨rfl, by omega⟩
  refine ⟨f, fun b => b < args.length, by simp; omega, rfl, ?_, ⟨rfl, .refl _ _, fun b k hk => (g2 b k hk).2.1, ?_, fun b k hk _ => (g2 b k hk).2.2.2, ?_⟩, fun b hb => hb⟩
  · intro k
    have := zipT_rep 0 g1 k
    simp only [List.replicate_zero, List.nil_append] at this
    rw [Array.getD_eq_getD_getElem?, Array.getElem?_append]
    rw [List.getD_eq_getElem?_getD] at this
    split
    · simpa using this
    · rename_i hk
      rw [List.getElem?_eq_none (by simpa using hk)] at this
      rw [Array.getElem?_replicate]
      split <;> simpa using this
  · intro b k hk ho
    rw [(g2 b k hk).2.2.1] at ho; cases ho
  · intro b c k l hk _ ho
    rw [(g2 b k hk).2.2.1] at ho; cases ho

end

/-! ### A function's end -/
def rvOf (P : Program) (s : St) : ResultVar → Option AV
  | .tmp t => some (tget s.t t)
  | .cell a t => match aLoad P t (tget s.t a) s.h with
    | some R => some R.r
    | none => none

def toSs : List AV → Option (List SV)
  | [] => some []
  | .s x :: r => (toSs r).map (x :: ·)
  | .tup _ :: _ => none

def rvsOf (P : Program) (s : St) : List ResultVar → Option (List AV)
  | [] => some []
  | x :: r => match rvOf P s x, rvsOf P s r with
    | some A, some l => some (A :: l)
    | _, _ => none

def aRet (P : Program) (rs : List ResultVar) (s : St) : Option AV :=
  match rvsOf P s rs with
  | some [A] => some A
  | some l => (toSs l).map .tup
  | none => none

section
variable {P : Program} {n B : Nat} {w0 : World} {ρ : Nat → Loc} {al : Nat → Prop} {s : St} {a : Act} {w : World}

def rvSem (tm : Array Value) : ResultVar → Sem Value
  | .tmp t => pure (tm.getD t undef)
  | .cell b t => do loadVar t (← asAddr (tm.getD b undef))

theorem rvOf_sound (H : RepS n B w0 ρ al s a w) {x : ResultVar} {A : AV} (hx : rvOf P s x = some A) :
    ∃ v, (rvSem a.tmps x).run P w = .ok v w ∧ ARep ρ al A v := by
  cases x with
  | tmp t =>
    injection hx with hx
    subst hx
    exact ⟨_, rfl, H.t t⟩
  | cell b t =>
    simp only [rvOf] at hx
    split at hx
    case h_2 => cases hx
    rename_i R hR
    injection hx with hx
    subst hx
    obtain ⟨v, h1, h2, _⟩ := aLoad_sound (P := P) H.w (H.t b) hR
    refine ⟨v, ?_, h2⟩
    unfold aLoad at hR
    split at hR
    case h_2 => cases hR
    rename_i b' i' j' e
    have := H.t b
    rw [e] at this
    obtain ⟨_, hp⟩ := this
    rw [hp] at h1
    simp only [rvSem, hp]
    simpa [Instr.loadAt, Instr.sureAddr, asAddr] using h1

theorem rvsOf_sound (H : RepS n B w0 ρ al s a w) : ∀ {l : List ResultVar} {As : List AV}, rvsOf P s l = some As →
    ∃ vs, (l.mapM (rvSem a.tmps)).run P w = .ok vs w ∧ AsRep ρ al As vs
  | [], As, h => by
    injection h with h
    subst h
    exact ⟨[], rfl, trivial⟩
  | x :: l, As, h => by
    simp only [rvsOf] at h
    split at h
    case h_2 => cases h
    rename_i A r hA hr
    injection h with h
    subst h
    obtain ⟨v, g1, g2⟩ := rvOf_sound H hA
    obtain ⟨vs, g3, g4⟩ := rvsOf_sound H hr
    refine ⟨v :: vs, ?_, g2, g4⟩
    rw [List.mapM_cons, Sem.run_bind, g1, Result.andThen_ok, Sem.run_bind, g3]
    rfl

theorem toSs_rep : ∀ {As : List AV} {ss : List SV} {vs : List Value}, toSs As = some ss → AsRep ρ al As vs → SsRep ρ al ss vs
  | [], ss, [], h, _ => by injection h with h; subst h; trivial
  | .s x :: r, ss, v :: vs, h, ⟨a, b⟩ => by
    simp only [toSs, Option.map_eq_some_iff] at h
    obtain ⟨l, h1, rfl⟩ := h
    exact ⟨a, toSs_rep h1 b⟩
  | .tup _ :: _, _, _, h, _ => by cases h
  | [], _, _ :: _, _, h => h.elim
  | _ :: _, _, [], _, h => h.elim

theorem aRet_sound (H : RepS n B w0 ρ al s a w) {fn : Func} {r : AV} (hr : aRet P fn.results.toList s = some r) : ∃ v, (results fn a.tmps).run P w = .ok v w ∧ ARep ρ al r v := by
  unfold aRet at hr
  have hm : ∀ {vs : List Value}, (fn.results.toList.mapM (rvSem a.tmps)).run P w = .ok vs w → (results fn a.tmps).run P w = .ok (if h : vs.toArray.size = 1 then vs.toArray[0] else .tuple vs.toArray) w := by
    intro vs hv
    have e : results fn a.tmps = (do let vs ← fn.results.mapM (rvSem a.tmps); pure (if h : vs.size = 1 then vs[0] else .tuple vs)) := by
      unfold results
      congr 1
    rw [e, Array.mapM_eq_mapM_toList]
    simp only [Sem.run_bind, Sem.run_map, hv, Result.andThen_ok, Sem.run_pure]
  split at hr
  · rename_i A hA
    injection hr with hr
    subst hr
    obtain ⟨vs, h1, h2⟩ := rvsOf_sound H hA
    cases vs with
    | nil => exact h2.elim
    | cons v vs =>
      cases vs with
      | cons _ _ => exact h2.2.elim
      | nil => exact ⟨v, hm h1, h2.1⟩
  · rename_i l hne hl
    obtain ⟨vs, h1, h2⟩ := rvsOf_sound H hl
    simp only [Option.map_eq_some_iff] at hr
    obtain ⟨ss, h3, rfl⟩ := hr
    refine ⟨.tuple vs.toArray, ?_, vs, rfl, toSs_rep h3 h2⟩
    rw [hm h1, dif_neg]
    intro hsz
    have hlen := h2.length
    simp at hsz
    rw [hsz] at hlen
    match l, hlen with
    | [A], _ => exact hne A rfl
  · cases hr

end

end Go.Proofs.Ythhlghoeapjagaa
