/- The value logic, computed: which blocks are handed over, under which numbers. No program in sight. -/
import Derived.Test.YtpdjaabjfhjppaaGreatDoorZ4
set_option linter.unusedVariables false
set_option linter.unusedSimpArgs false
namespace Go.Proofs.YtpdjaabjfhjppaaGreatDoor
open Go.RowKit
set_option maxRecDepth 100000

def LV.refs : LV → List Nat
  | .sl b _ _ => [b]
  | .p b _ _ => [b]
  | .bf _ bs cs => bs ++ cs
  | _ => []
def refsL (l : List LV) : List Nat := l.flatMap LV.refs
def SV.refs : SV → List Nat
  | .l x => x.refs
  | .agg xs => refsL xs
def AV.refs : AV → List Nat
  | .s x => x.refs
  | .tup xs => xs.flatMap SV.refs
  | .fn _ a c => refsL a ++ refsL c
def Blk.refs (k : Blk) : List Nat := k.els.flatMap refsL
def refsA (l : List AV) : List Nat := l.flatMap AV.refs

theorem map_back {α : Type} {f : α → α} {l : List α} (h : ∀ x ∈ l, f x = x) : l.map f = l := by
  induction l with
  | nil => rfl
  | cons x l ih => rw [List.map_cons, h x List.mem_cons_self, ih fun y hy => h y (List.mem_cons_of_mem _ hy)]
theorem map_back2 {α : Type} {g f : α → α} {l : List α} (h : ∀ x ∈ l, f (g x) = x) : (l.map g).map f = l := by
  rw [List.map_map]
  exact map_back h
section
variable {g f : Nat → Nat}
theorem nat_back {l : List Nat} (h : ∀ b ∈ l, f (g b) = b) : (l.map g).map f = l := by
  rw [List.map_map]
  exact map_back h
theorem LV.back {x : LV} (h : ∀ b ∈ x.refs, f (g b) = b) : (x.ren g).ren f = x := by
  cases x with
  | sl b i n => show LV.sl (f (g b)) i n = _; rw [h b (by simp [LV.refs])]
  | p b i j => show LV.p (f (g b)) i j = _; rw [h b (by simp [LV.refs])]
  | bf k bs cs =>
    show LV.bf k ((bs.map g).map f) ((cs.map g).map f) = _
    rw [nat_back fun b hb => h b (by simp [LV.refs, hb]), nat_back fun b hb => h b (by simp [LV.refs, hb])]
  | _ => rfl
theorem lvs_back {l : List LV} (h : ∀ b ∈ refsL l, f (g b) = b) : (l.map (·.ren g)).map (·.ren f) = l := by
  rw [List.map_map]
  exact map_back fun x hx => LV.back fun b hb => h b (List.mem_flatMap.2 ⟨x, hx, hb⟩)
theorem SV.back {x : SV} (h : ∀ b ∈ x.refs, f (g b) = b) : (x.ren g).ren f = x := by
  cases x with
  | l x => show SV.l ((x.ren g).ren f) = _; rw [LV.back h]
  | agg xs => show SV.agg ((xs.map (·.ren g)).map (·.ren f)) = _; rw [lvs_back h]
theorem AV.back {x : AV} (h : ∀ b ∈ x.refs, f (g b) = b) : (x.ren g).ren f = x := by
  cases x with
  | s x => show AV.s ((x.ren g).ren f) = _; rw [SV.back h]
  | tup xs =>
    show AV.tup ((xs.map (·.ren g)).map (·.ren f)) = _
    rw [map_back2 (g := fun x : SV => x.ren g) (f := fun x : SV => x.ren f) fun x hx => SV.back fun b hb => h b (List.mem_flatMap.2 ⟨x, hx, hb⟩)]
  | fn k a c =>
    show AV.fn k ((a.map (·.ren g)).map (·.ren f)) ((c.map (·.ren g)).map (·.ren f)) = _
    rw [lvs_back fun b hb => h b (by simp [AV.refs, hb]), lvs_back fun b hb => h b (by simp [AV.refs, hb])]
theorem Blk.back {k : Blk} (h : ∀ b ∈ k.refs, f (g b) = b) : (k.ren g).ren f = k := by
  obtain ⟨o, T, sz, els⟩ := k
  show (⟨o, T, sz, (els.map (·.map (·.ren g))).map (·.map (·.ren f))⟩ : Blk) = _
  rw [map_back2 (g := fun x : List LV => x.map (·.ren g)) (f := fun x : List LV => x.map (·.ren f)) fun e he => lvs_back fun b hb => h b (List.mem_flatMap.2 ⟨e, he, hb⟩)]
end

noncomputable section
def memR (bs : List Nat) (b : Nat) : Bool := List.rec (motive := fun _ => Bool) false (fun a _ ih => cond (Nat.beq a b) true ih) bs
def ixR (bs : List Nat) (b : Nat) : Nat := List.rec (motive := fun _ => Nat) 0 (fun a _ ih => cond (Nat.beq a b) 0 (Nat.succ ih)) bs
def allR (bs l : List Nat) : Bool := List.rec (motive := fun _ => Bool) true (fun a _ ih => cond (memR bs a) ih false) l
def nodupR (l : List Nat) : Bool := List.rec (motive := fun _ => Bool) true (fun a r ih => cond (memR r a) false ih) l
def hgetR (h : Heap) (b : Nat) : Option Blk := List.rec (motive := fun _ => Option Blk) none (fun a _ ih => cond (Nat.beq a.1 b) a.2 ih) h
def reachB (rec : List Nat → List Nat → Option (List Nat)) (b : Nat) (r seen : List Nat) (k : Option Blk) : Option (List Nat) := match k with
  | some k => rec (k.refs ++ r) (seen ++ [b])
  | none => none
def reachS (h : Heap) (rec : List Nat → List Nat → Option (List Nat)) (todo seen : List Nat) : Option (List Nat) := match todo with
  | [] => some seen
  | b :: r => cond (memR seen b) (rec r seen) (reachB rec b r seen (hgetR h b))
/-- the blocks that are led to -/
def reachR (h : Heap) (f : Nat) : List Nat → List Nat → Option (List Nat) := Nat.rec (motive := fun _ => List Nat → List Nat → Option (List Nat)) (fun _ _ => none) (fun _ ih => reachS h ih) f
def getB1 (ks : Option (List Blk)) (k : Option Blk) : Option (List Blk) := match k with
  | some k => ks.map (k :: ·)
  | none => none
def getBs (h : Heap) (bs : List Nat) : Option (List Blk) := List.rec (motive := fun _ => Option (List Blk)) (some []) (fun b _ ih => getB1 ih (hgetR h b)) bs
end

theorem memR_iff {bs : List Nat} {b : Nat} : memR bs b = true ↔ b ∈ bs := by
  induction bs with
  | nil => constructor <;> intro h <;> cases h
  | cons a r ih =>
    show cond (Nat.beq a b) true (memR r b) = true ↔ _
    by_cases e : a = b
    · rw [nbt e]; simp [e]
    · rw [nbf e]
      simp only [cond_false, List.mem_cons, ih]
      constructor
      · exact .inr
      · rintro (h | h)
        · exact absurd h.symm e
        · exact h
theorem getD_ix {bs : List Nat} {b d : Nat} (h : b ∈ bs) : bs.getD (ixR bs b) d = b := by
  induction bs with
  | nil => cases h
  | cons a r ih =>
    show (a :: r).getD (cond (Nat.beq a b) 0 (Nat.succ (ixR r b))) d = b
    by_cases e : a = b
    · rw [nbt e]; exact e
    · rw [nbf e]
      simp only [cond_false, List.getD_cons_succ]
      rcases List.mem_cons.1 h with h | h
      · exact absurd h.symm e
      · exact ih h
theorem allR_iff {bs l : List Nat} (h : allR bs l = true) : ∀ b ∈ l, b ∈ bs := by
  induction l with
  | nil => intro b hb; cases hb
  | cons a r ih =>
    have h : cond (memR bs a) (allR bs r) false = true := h
    cases hm : memR bs a
    · rw [hm] at h; cases h
    · rw [hm] at h
      intro b hb
      rcases List.mem_cons.1 hb with rfl | hb
      · exact memR_iff.1 hm
      · exact ih h b hb
theorem nodupR_iff {l : List Nat} (h : nodupR l = true) : l.Nodup := by
  induction l with
  | nil => exact List.nodup_nil
  | cons a r ih =>
    have h : cond (memR r a) false (nodupR r) = true := h
    cases hm : memR r a
    · rw [hm] at h
      refine List.nodup_cons.2 ⟨fun hi => ?_, ih h⟩
      rw [memR_iff.2 hi] at hm
      cases hm
    · rw [hm] at h; cases h
theorem hgetR_eq (h : Heap) (b : Nat) : hgetR h b = hget h b := by
  induction h with
  | nil => rfl
  | cons a r ih =>
    obtain ⟨j, x⟩ := a
    show cond (Nat.beq j b) x (hgetR r b) = _
    rw [hget, ih]
    by_cases e : j = b
    · rw [if_pos e, nbt e]; rfl
    · rw [if_neg e, nbf e]; rfl
theorem reach_mono {h h' : Heap} (hs : ∀ b k, hget h b = some k → hget h' b = some k) : ∀ (f : Nat) {todo seen l : List Nat}, reachR h f todo seen = some l → reachR h' f todo seen = some l
  | 0, _, _, _, hr => by cases hr
  | f + 1, todo, seen, l, hr => by
    have hr : reachS h (reachR h f) todo seen = some l := hr
    show reachS h' (reachR h' f) todo seen = some l
    unfold reachS at hr ⊢
    cases todo with
    | nil => exact hr
    | cons b r =>
      simp only at hr ⊢
      cases hm : memR seen b
      · rw [hm] at hr
        simp only [cond_false] at hr ⊢
        rw [hgetR_eq] at hr ⊢
        cases hk : hget h b with
        | none => rw [hk] at hr; cases hr
        | some k =>
          rw [hk] at hr
          rw [hs _ _ hk]
          exact reach_mono hs f hr
      · rw [hm] at hr
        simp only [cond_true] at hr ⊢
        exact reach_mono hs f hr
theorem getBs_at {h : Heap} : ∀ {bs : List Nat} {ks : List Blk}, getBs h bs = some ks → ks.length = bs.length ∧ ∀ (j b : Nat) (k : Blk), bs[j]? = some b → ks[j]? = some k → hget h b = some k
  | [], ks, hg => by
    injection hg with hg
    subst hg
    exact ⟨rfl, fun j b k h => by cases h⟩
  | b :: bs, ks, hg => by
    have hg : getB1 (getBs h bs) (hgetR h b) = some ks := hg
    rw [hgetR_eq] at hg
    cases hk : hget h b with
    | none => rw [hk] at hg; cases hg
    | some k =>
      rw [hk] at hg
      simp only [getB1, Option.map_eq_some_iff] at hg
      obtain ⟨ks', h1, rfl⟩ := hg
      obtain ⟨h2, h3⟩ := getBs_at h1
      refine ⟨by simp [h2], fun j c k' hj hk' => ?_⟩
      cases j with
      | zero =>
        simp only [List.getElem?_cons_zero, Option.some.injEq] at hj hk'
        subst hj hk'
        exact hk
      | succ j => exact h3 j c k' (by simpa using hj) (by simpa using hk')
theorem getBs_mono {h h' : Heap} (hs : ∀ b k, hget h b = some k → hget h' b = some k) : ∀ {bs : List Nat} {ks : List Blk}, getBs h bs = some ks → getBs h' bs = some ks
  | [], ks, hg => hg
  | b :: bs, ks, hg => by
    have hg : getB1 (getBs h bs) (hgetR h b) = some ks := hg
    show getB1 (getBs h' bs) (hgetR h' b) = some ks
    rw [hgetR_eq] at hg ⊢
    cases hk : hget h b with
    | none => rw [hk] at hg; cases hg
    | some k =>
      rw [hk] at hg
      simp only [getB1, Option.map_eq_some_iff] at hg
      obtain ⟨ks', h1, rfl⟩ := hg
      rw [hs _ _ hk, getBs_mono hs h1]
      rfl
end Go.Proofs.YtpdjaabjfhjppaaGreatDoor
