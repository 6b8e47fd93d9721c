/- The value logic with lasting memory, part 1: abstract values and blocks, and what it means that a world holds them. No program in sight. -/
import Derived.WalkKit
import Derived.Test.YtcdbldakjepjiaaDoorG
import Derived.Lib.Hide
import Derived.Deep.MidRow
import Derived.Deep.AppendLies
import Derived.RangeFuncCalls
import Derived.RangeFuncLeaves
import Derived.RangeFuncNested
import Derived.TacticsIn
set_option linter.unusedVariables false
set_option linter.unusedSimpArgs false
namespace Go.Proofs.YtcdbldakjepjiaaDoor
open Go.RowKit

/-- A deep value: all that it leads to lasts: a plain value, a slice of such (each element has sz cells), a pointer to such cells, a function with what it has caught. -/
inductive D where
  | v (x : Value)
  | sd (sz : Nat) (els : List (List D))
  | pd (xs : List D)
  | fn (g : FuncId) (first cap : List D)
  | ifc (t : TypeId) (x : D)

/-- The memory that lasts. -/
abbrev Mem := Nat → Nat → Option Value

mutual
def DRep (M : Mem) : D → Value → Prop
  | .v x, y => y = x
  | .sd sz els, y => ∃ A cap, y = .slice A els.length cap ∧ els.length ≤ cap ∧ (els ≠ [] → ∃ blk off, A = some ⟨blk, off, none⟩ ∧ DssAt M blk off sz els)
  | .pd xs, y => ∃ blk off, y = .pointer (some ⟨blk, off, none⟩) ∧ DsAt M blk off xs
  | .fn g first cap, y => ∃ f c : List Value, y = .func (.func g) f.toArray c.toArray ∧ DsRep M first f ∧ DsRep M cap c
  | .ifc t x, y => ∃ v, y = .iface t v ∧ DRep M x v
def DsRep (M : Mem) : List D → List Value → Prop
  | [], [] => True
  | x :: xs, y :: ys => y.oneCell' = true ∧ DRep M x y ∧ DsRep M xs ys
  | _, _ => False
def DsAt (M : Mem) (blk : Nat) (off : Nat) : List D → Prop
  | [] => True
  | x :: xs => (∃ y, M blk off = some y ∧ y.oneCell' = true ∧ DRep M x y) ∧ DsAt M blk (off + 1) xs
def DssAt (M : Mem) (blk off sz : Nat) : List (List D) → Prop
  | [] => True
  | e :: r => e.length = sz ∧ DsAt M blk off e ∧ DssAt M blk (off + sz) sz r
end

def Mem.le (M M' : Mem) : Prop := ∀ b o y, M b o = some y → M' b o = some y
theorem Mem.le_refl (M : Mem) : M.le M := fun _ _ _ h => h
theorem Mem.le_trans {M M' M'' : Mem} (h : M.le M') (k : M'.le M'') : M.le M'' := fun b o y e => k b o y (h b o y e)

mutual
theorem DRep.mono {M M' : Mem} (h : M.le M') : ∀ {x : D} {y : Value}, DRep M x y → DRep M' x y
  | .v x, y, hr => by simpa only [DRep] using hr
  | .sd sz els, y, hr => by
    simp only [DRep] at hr ⊢
    obtain ⟨A, cap, h1, h2, h3⟩ := hr
    exact ⟨A, cap, h1, h2, fun hn => let ⟨b, o, g1, g2⟩ := h3 hn; ⟨b, o, g1, DssAt.mono h g2⟩⟩
  | .pd xs, y, hr => by
    simp only [DRep] at hr ⊢
    obtain ⟨b, o, h1, h2⟩ := hr
    exact ⟨b, o, h1, DsAt.mono h h2⟩
  | .fn g f c, y, hr => by
    simp only [DRep] at hr ⊢
    obtain ⟨a, b, h1, h2, h3⟩ := hr
    exact ⟨a, b, h1, DsRep.mono h h2, DsRep.mono h h3⟩
  | .ifc t x, y, hr => by
    simp only [DRep] at hr ⊢
    obtain ⟨v, h1, h2⟩ := hr
    exact ⟨v, h1, DRep.mono h h2⟩
theorem DsRep.mono {M M' : Mem} (h : M.le M') : ∀ {x : List D} {y : List Value}, DsRep M x y → DsRep M' x y
  | [], [], _ => by simp only [DsRep]
  | x :: xs, y :: ys, hr => by
    simp only [DsRep] at hr ⊢
    exact ⟨hr.1, DRep.mono h hr.2.1, DsRep.mono h hr.2.2⟩
  | [], _ :: _, hr => by simp only [DsRep] at hr
  | _ :: _, [], hr => by simp only [DsRep] at hr
theorem DsAt.mono {M M' : Mem} (h : M.le M') {blk : Nat} : ∀ {off : Nat} {x : List D}, DsAt M blk off x → DsAt M' blk off x
  | _, [], _ => by simp only [DsAt]
  | off, x :: xs, hr => by
    simp only [DsAt] at hr ⊢
    obtain ⟨⟨y, h1, h2, h3⟩, h4⟩ := hr
    exact ⟨⟨y, h _ _ _ h1, h2, DRep.mono h h3⟩, DsAt.mono h h4⟩
theorem DssAt.mono {M M' : Mem} (h : M.le M') {blk sz : Nat} : ∀ {off : Nat} {x : List (List D)}, DssAt M blk off sz x → DssAt M' blk off sz x
  | _, [], _ => by simp only [DssAt]
  | off, x :: xs, hr => by
    simp only [DssAt] at hr ⊢
    exact ⟨hr.1, DsAt.mono h hr.2.1, DssAt.mono h hr.2.2⟩
end

/-- Which numbers of blocks are taken, and the memory that lasts. -/
structure Al where
  p : Nat → Prop
  M : Mem
instance : CoeFun Al (fun _ => Nat → Prop) := ⟨Al.p⟩

/-- Where an abstract block lies. -/
structure Loc where
  blk : Nat
  off : Nat
  sz : Nat
  cap : Nat
  own : Bool

/-- What a run rests on: which blocks of the world at its start stay as they are, and the memory that lasted then; where the blocks with the first numbers lie, for good. -/
structure Base where
  S : Nat → Prop
  M : Mem
  pl : List Loc
  ds : List Deferred
  gok : Gok M

/-- a block for late calls -/
def isDef : Obj → Bool
  | .deferred _ => true
  | _ => false
theorem isDef_cells {o : Obj} (h : isDef o = true) : o.isCells = false := by
  cases o <;> first | rfl | cases h

/-- late calls lie as they lay -/
structure KeepsD (w w' : World) : Prop where
  size : w.heap.size ≤ w'.heap.size
  same : ∀ (k : Nat) (o : Obj), w.heap[k]? = some o → isDef o = true → w'.heap[k]? = some o
theorem KeepsD.refl (w : World) : KeepsD w w := ⟨Nat.le_refl _, fun _ _ h _ => h⟩

/-- Of the blocks S none has turned since; the streams are as they were. -/
structure Keeps (S : Nat → Prop) (w w' : World) : Prop where
  os : w'.os = w.os
  tape : w'.tape = w.tape
  output : w'.output = w.output
  size : w.heap.size ≤ w'.heap.size
  block : ∀ k, S k → w'.heap[k]? = w.heap[k]?
  others : ∀ (k : Nat) (o : Obj), w.heap[k]? = some o → isDef o = true → w'.heap[k]? = some o

theorem Keeps.refl (S : Nat → Prop) (w : World) : Keeps S w w := ⟨rfl, rfl, rfl, Nat.le_refl _, fun _ _ => rfl, fun _ _ h _ => h⟩
theorem Keeps.trans {S : Nat → Prop} {a b c : World} (h : Keeps S a b) (k : Keeps S b c) : Keeps S a c :=
  ⟨k.os.trans h.os, k.tape.trans h.tape, k.output.trans h.output, Nat.le_trans h.size k.size, fun i hi => (k.block i hi).trans (h.block i hi), fun i o hi ho => k.others i o (h.others i o hi ho) ho⟩
theorem Keeps.mono {S S' : Nat → Prop} {w w' : World} (h : Keeps S w w') (hS : ∀ k, S' k → S k) : Keeps S' w w' := ⟨h.os, h.tape, h.output, h.size, fun k hk => h.block k (hS k hk), h.others⟩
theorem Keeps.drew {S : Nat → Prop} {a w : World} (h : Keeps S a w) : Keeps S a w.drew := ⟨h.os, h.tape, h.output, h.size, h.block, h.others⟩
theorem Keeps.alloc {S : Nat → Prop} {a w : World} (h : Keeps S a w) (hS : ∀ k, S k → k < w.heap.size) (o : Obj) : Keeps S a (w.alloc o) :=
  h.trans ⟨rfl, rfl, rfl, by simp, fun k hk => Below.heap_alloc _ _ _ (hS k hk), fun k o' h ho => (KeepsOthers.alloc w o).same k o' h (isDef_cells ho)⟩
theorem Keeps.setCell {S : Nat → Prop} {a w : World} (h : Keeps S a w) {p : Addr} (hp : ¬ S p.block) (u : Value) : Keeps S a (w.setCell p u) :=
  h.trans ⟨rfl, rfl, rfl, by simp [World.setCell], fun k hk => Below.heap_setCell _ _ _ _ (fun e => hp (e ▸ hk)), fun k o' h ho => (KeepsOthers.setCell w p u).same k o' h (isDef_cells ho)⟩
theorem Keeps.below {w w' : World} {B : Nat} (h : Keeps (fun k => k < B) w w') : Below B w w' := ⟨h.os, h.tape, h.output, h.size, h.block⟩
theorem Keeps.kept {S : Nat → Prop} {w w' : World} (h : Keeps S w w') : KeepsD w w' := ⟨h.size, h.others⟩

/-- The value of one cell: exactly a value, a deep value, a slice of an abstract block (elements i .. i + n), a pointer to cell j of its element i, or whatever. -/
inductive LV where
  | v (x : Value)
  | d (x : D)
  | sl (b i n : Nat)
  | p (b i j : Nat)
  | any

/-- A value of one cell, or a struct's cells. -/
inductive SV where
  | l (x : LV)
  | agg (xs : List LV)

/-- Such a value, or a tuple of such, or a function with what it has caught. -/
inductive AV where
  | s (x : SV)
  | tup (xs : List SV)
  | fn (g : FuncId) (first cap : List LV)

/-- An abstract block: elements of type T, each of sz cells. -/
structure Blk where
  own : Bool
  T : TypeId
  sz : Nat
  els : List (List LV)

abbrev Heap := List (Nat × Option Blk)

def hget : Heap → Nat → Option Blk
  | [], _ => none
  | (k, x) :: r, b => if k = b then x else hget r b

abbrev Tmps := List (Nat × AV)

def tget : Tmps → Nat → AV
  | [], _ => .s (.l .any)
  | (k, x) :: r, b => if k = b then x else tget r b

section
variable (ρ : Nat → Loc) (al : Al)

def LRep : LV → Value → Prop
  | .v x, y => y = x
  | .d x, y => DRep al.M x y
  | .sl b i n, y => al b ∧ ∃ A, y = .slice A n ((ρ b).cap - i) ∧ i + n ≤ (ρ b).cap ∧ (i < (ρ b).cap → A = some ⟨(ρ b).blk, (ρ b).off + i * (ρ b).sz, none⟩)
  | .p b i j, y => al b ∧ y = .pointer (some ⟨(ρ b).blk, (ρ b).off + i * (ρ b).sz + j, none⟩)
  | .any, _ => True

def LsRep : List LV → List Value → Prop
  | [], [] => True
  | x :: xs, y :: ys => y.oneCell' = true ∧ LRep ρ al x y ∧ LsRep xs ys
  | _, _ => False

def SRep : SV → Value → Prop
  | .l x, y => LRep ρ al x y
  | .agg xs, y => ∃ cs : List Value, y = .agg cs.toArray ∧ LsRep ρ al xs cs

def SsRep : List SV → List Value → Prop
  | [], [] => True
  | x :: xs, y :: ys => SRep ρ al x y ∧ SsRep xs ys
  | _, _ => False

def ARep : AV → Value → Prop
  | .s x, y => SRep ρ al x y
  | .tup xs, y => ∃ cs : List Value, y = .tuple cs.toArray ∧ SsRep ρ al xs cs
  | .fn g first cap, y => ∃ f c : List Value, y = .func (.func g) f.toArray c.toArray ∧ LsRep ρ al first f ∧ LsRep ρ al cap c

def AsRep : List AV → List Value → Prop
  | [], [] => True
  | x :: xs, y :: ys => ARep ρ al x y ∧ AsRep xs ys
  | _, _ => False

def TRep (t : Tmps) (tm : Array Value) : Prop := ∀ k, ARep ρ al (tget t k) (tm.getD k undef)

end

def cellAt (els : List (List LV)) (i j : Nat) : Option LV := (els[i]?).bind (·[j]?)

structure BRep (ρ : Nat → Loc) (al : Al) (w : World) (b : Nat) (k : Blk) : Prop where
  here : al b
  own : (ρ b).own = k.own
  sz : (ρ b).sz = k.sz
  len : ∀ e ∈ k.els, e.length = k.sz
  cap : k.els.length ≤ (ρ b).cap
  cells : ∀ i j x, cellAt k.els i j = some x → ∃ y, w.cell? ⟨(ρ b).blk, (ρ b).off + i * (ρ b).sz + j, none⟩ = some y ∧ y.oneCell' = true ∧ LRep ρ al x y
  room : k.own = true → (ρ b).off = 0 ∧ (ρ b).cap ≤ maxLen ∧ ((ρ b).cap ≠ 0 → ∃ cur fr, w.heap[(ρ b).blk]? = some (.cells cur k.T fr) ∧ cur.size = (ρ b).cap * (ρ b).sz ∧ (fr.1 = fr.2 ∨ cur.size ≤ fr.1))

structure WRep (B : Base) (w0 : World) (ρ : Nat → Loc) (al : Al) (h : Heap) (w : World) : Prop where
  base : ∀ k, B.S k → k < w0.heap.size
  below : Keeps B.S w0 w
  blk : ∀ b k, hget h b = some k → BRep ρ al w b k
  own : ∀ b k, hget h b = some k → k.own = true → (ρ b).cap ≠ 0 → ¬ B.S (ρ b).blk
  old : ∀ b k, hget h b = some k → k.own = false → k.els ≠ [] → B.S (ρ b).blk
  apart : ∀ b c k l, hget h b = some k → hget h c = some l → k.own = true → l.own = true → (ρ b).cap ≠ 0 → (ρ c).cap ≠ 0 → b ≠ c → (ρ b).blk ≠ (ρ c).blk
  mem : ∀ b o y, al.M b o = some y → w.cell? ⟨b, o, none⟩ = some y
  memOwn : ∀ b k, hget h b = some k → k.own = true → (ρ b).cap ≠ 0 → ∀ o, al.M (ρ b).blk o = none
  memNew : ∀ b o y, al.M b o = some y → B.M b o = some y ∨ ¬ B.S b
  memOld : B.M.le al.M
  pins : ∀ (j : Nat) (l : Loc), B.pl[j]? = some l → al j ∧ ρ j = l

theorem WRep.size {B : Base} {w0 : World} {ρ : Nat → Loc} {al : Al} {h : Heap} {w : World} (H : WRep B w0 ρ al h w) : ∀ k, B.S k → k < w.heap.size := fun k hk => by
  have := H.below.size; have := H.base k hk; omega

theorem WRep.memLt {B : Base} {w0 : World} {ρ : Nat → Loc} {al : Al} {h : Heap} {w : World} (H : WRep B w0 ρ al h w) {b o : Nat} {y : Value} (hb : al.M b o = some y) : b < w.heap.size := by
  have := H.mem b o y hb
  unfold World.cell? at this
  rcases Nat.lt_or_ge b w.heap.size with h1 | h1
  · exact h1
  · simp [Array.getElem?_eq_none h1] at this

/-! More blocks, the old ones where they were -/
structure Ext (ρ ρ' : Nat → Loc) (al al' : Al) : Prop where
  eq : ∀ b, al b → ρ' b = ρ b
  M : al.M.le al'.M
  al : ∀ b, al b → al' b

theorem Ext.refl (ρ : Nat → Loc) (al : Al) : Ext ρ ρ al al := ⟨fun _ _ => rfl, Mem.le_refl _, fun _ h => h⟩
theorem Ext.trans {ρ ρ' ρ'' : Nat → Loc} {al al' al'' : Al} (h : Ext ρ ρ' al al') (k : Ext ρ' ρ'' al' al'') : Ext ρ ρ'' al al'' :=
  ⟨fun b hb => (k.eq b (h.al b hb)).trans (h.eq b hb), Mem.le_trans h.M k.M, fun b hb => k.al b (h.al b hb)⟩

section
variable {ρ ρ' : Nat → Loc} {al al' : Al} (E : Ext ρ ρ' al al')
include E
theorem LRep.ext {x : LV} {y : Value} (h : LRep ρ al x y) : LRep ρ' al' x y := by
  cases x with
  | v x => exact h
  | d x => exact DRep.mono E.M h
  | any => trivial
  | p b i j => obtain ⟨a, e⟩ := h; exact ⟨E.al b a, by rw [E.eq b a]; exact e⟩
  | sl b i n => obtain ⟨a, e⟩ := h; exact ⟨E.al b a, by rw [E.eq b a]; exact e⟩
theorem LsRep.ext : ∀ {xs : List LV} {ys : List Value}, LsRep ρ al xs ys → LsRep ρ' al' xs ys
  | [], [], _ => trivial
  | _ :: _, _ :: _, ⟨a, b, c⟩ => ⟨a, b.ext E, LsRep.ext c⟩
theorem SRep.ext {x : SV} {y : Value} (h : SRep ρ al x y) : SRep ρ' al' x y := by
  cases x with
  | l x => exact LRep.ext E h
  | agg xs => obtain ⟨cs, e, h⟩ := h; exact ⟨cs, e, h.ext E⟩
theorem SsRep.ext : ∀ {xs : List SV} {ys : List Value}, SsRep ρ al xs ys → SsRep ρ' al' xs ys
  | [], [], _ => trivial
  | _ :: _, _ :: _, ⟨a, b⟩ => ⟨a.ext E, SsRep.ext b⟩
theorem ARep.ext {x : AV} {y : Value} (h : ARep ρ al x y) : ARep ρ' al' x y := by
  cases x with
  | s x => exact SRep.ext E h
  | tup xs => obtain ⟨cs, e, h⟩ := h; exact ⟨cs, e, h.ext E⟩
  | fn g f c => obtain ⟨a, b, e, h, k⟩ := h; exact ⟨a, b, e, h.ext E, k.ext E⟩
theorem AsRep.ext : ∀ {xs : List AV} {ys : List Value}, AsRep ρ al xs ys → AsRep ρ' al' xs ys
  | [], [], _ => trivial
  | _ :: _, _ :: _, ⟨a, b⟩ => ⟨a.ext E, AsRep.ext b⟩
theorem TRep.ext {t : Tmps} {tm : Array Value} (h : TRep ρ al t tm) : TRep ρ' al' t tm := fun k => (h k).ext E
end

section
variable {ρ : Nat → Loc} {al : Al}
theorem LsRep.length : ∀ {xs : List LV} {ys : List Value}, LsRep ρ al xs ys → ys.length = xs.length
  | [], [], _ => rfl
  | _ :: _, _ :: _, ⟨_, _, c⟩ => by simp [LsRep.length c]
theorem SsRep.length : ∀ {xs : List SV} {ys : List Value}, SsRep ρ al xs ys → ys.length = xs.length
  | [], [], _ => rfl
  | _ :: _, _ :: _, ⟨_, c⟩ => by simp [SsRep.length c]
theorem AsRep.length : ∀ {xs : List AV} {ys : List Value}, AsRep ρ al xs ys → ys.length = xs.length
  | [], [], _ => rfl
  | _ :: _, _ :: _, ⟨_, c⟩ => by simp [AsRep.length c]
theorem LsRep.get : ∀ {xs : List LV} {ys : List Value}, LsRep ρ al xs ys → ∀ (j : Nat) (x : LV), xs[j]? = some x → ∃ y, ys[j]? = some y ∧ y.oneCell' = true ∧ LRep ρ al x y
  | x :: xs, y :: ys, ⟨a, b, _⟩, 0, z, hz => by simp at hz; subst hz; exact ⟨y, rfl, a, b⟩
  | x :: xs, y :: ys, ⟨_, _, c⟩, j + 1, z, hz => by simpa using LsRep.get c j z (by simpa using hz)
theorem LsRep.one : ∀ {xs : List LV} {ys : List Value}, LsRep ρ al xs ys → ∀ y ∈ ys, y.oneCell' = true
  | [], [], _, y, hy => by simp at hy
  | x :: xs, y :: ys, ⟨a, _, c⟩, z, hz => by
    rcases List.mem_cons.1 hz with rfl | h
    · exact a
    · exact LsRep.one c z h
theorem LsRep.of_get : ∀ {xs : List LV} {f : Nat → Value}, (∀ (j : Nat) (x : LV), xs[j]? = some x → (f j).oneCell' = true ∧ LRep ρ al x (f j)) → LsRep ρ al xs ((List.range xs.length).map f)
  | [], _, _ => trivial
  | x :: xs, f, h => by
    rw [List.length_cons, List.range_succ_eq_map, List.map_cons, List.map_map]
    exact ⟨(h 0 x rfl).1, (h 0 x rfl).2, LsRep.of_get (f := f ∘ Nat.succ) fun j x hx => h (j + 1) x (by simpa using hx)⟩
theorem SsRep.get : ∀ {xs : List SV} {ys : List Value}, SsRep ρ al xs ys → ∀ (j : Nat) (x : SV), xs[j]? = some x → ∃ y, ys[j]? = some y ∧ SRep ρ al x y
  | x :: xs, y :: ys, ⟨a, _⟩, 0, z, hz => by simp at hz; subst hz; exact ⟨y, rfl, a⟩
  | x :: xs, y :: ys, ⟨_, c⟩, j + 1, z, hz => by simpa using SsRep.get c j z (by simpa using hz)
theorem LsRep.append : ∀ {xs : List LV} {ys : List Value} {xs' : List LV} {ys' : List Value}, LsRep ρ al xs ys → LsRep ρ al xs' ys' → LsRep ρ al (xs ++ xs') (ys ++ ys')
  | [], [], _, _, _, h => h
  | _ :: _, _ :: _, _, _, ⟨a, b, c⟩, h => ⟨a, b, LsRep.append c h⟩
theorem LsRep.take : ∀ {xs : List LV} {ys : List Value} (n : Nat), LsRep ρ al xs ys → LsRep ρ al (xs.take n) (ys.take n)
  | [], [], 0, _ => trivial
  | [], [], n + 1, _ => trivial
  | _ :: _, _ :: _, 0, _ => trivial
  | _ :: _, _ :: _, n + 1, ⟨a, b, c⟩ => ⟨a, b, LsRep.take n c⟩
theorem LsRep.drop : ∀ {xs : List LV} {ys : List Value} (n : Nat), LsRep ρ al xs ys → LsRep ρ al (xs.drop n) (ys.drop n)
  | [], [], 0, _ => trivial
  | [], [], n + 1, _ => trivial
  | _ :: _, _ :: _, 0, h => h
  | _ :: _, _ :: _, n + 1, ⟨_, _, c⟩ => LsRep.drop n c

theorem TRep.put {t : Tmps} {tm : Array Value} {d : Nat} {x : AV} {y : Value} (h : TRep ρ al t tm) (hd : d < tm.size) (hx : ARep ρ al x y) : TRep ρ al ((d, x) :: t) (tm.setIfInBounds d y) := by
  intro k
  rw [tget]
  split
  · rename_i e; subst e
    rw [Array.getD_eq_getD_getElem?, Array.getElem?_setIfInBounds, if_pos rfl, if_pos hd]; exact hx
  · rename_i e
    have := h k
    rw [Array.getD_eq_getD_getElem?] at this
    rw [Array.getD_eq_getD_getElem?, Array.getElem?_setIfInBounds, if_neg e]; exact this
end

/-! Changes of the world -/
section
variable {B : Base} {w0 : World} {ρ ρ' : Nat → Loc} {al al' : Al} {h h' : Heap} {w w' : World}

theorem BRep.ext (E : Ext ρ ρ' al al') {b : Nat} {k : Blk} (H : BRep ρ al w b k) (hw : w'.heap[(ρ b).blk]? = w.heap[(ρ b).blk]?) : BRep ρ' al' w' b k := by
  obtain ⟨a1, a2, a3, a4, a5, a6, a7⟩ := H
  have e := E.eq b a1
  refine ⟨E.al b a1, by rw [e]; exact a2, by rw [e]; exact a3, a4, by rw [e]; exact a5, ?_, ?_⟩
  · intro i j x hx
    obtain ⟨y, h1, h2, h3⟩ := a6 i j x hx
    refine ⟨y, ?_, h2, h3.ext E⟩
    rw [e, World.cell?_of_block (w := w) (by exact hw)]
    exact h1
  · intro ho
    rw [e, hw]
    exact a7 ho

theorem BRep.ext' (E : Ext ρ ρ' al al') {b : Nat} {k : Blk} (H : BRep ρ al w b k) (hw : k.els ≠ [] ∨ (k.own = true ∧ (ρ b).cap ≠ 0) → w'.heap[(ρ b).blk]? = w.heap[(ρ b).blk]?) : BRep ρ' al' w' b k := by
  obtain ⟨a1, a2, a3, a4, a5, a6, a7⟩ := H
  have e := E.eq b a1
  refine ⟨E.al b a1, by rw [e]; exact a2, by rw [e]; exact a3, a4, by rw [e]; exact a5, ?_, ?_⟩
  · intro i j x hx
    obtain ⟨y, h1, h2, h3⟩ := a6 i j x hx
    refine ⟨y, ?_, h2, h3.ext E⟩
    rw [e, World.cell?_of_block (w := w) (by
      refine hw (.inl ?_)
      rintro h0
      simp [cellAt, h0] at hx)]
    exact h1
  · intro ho
    rw [e]
    refine ⟨(a7 ho).1, (a7 ho).2.1, fun hc => ?_⟩
    rw [hw (.inr ⟨ho, hc⟩)]
    exact (a7 ho).2.2 hc

theorem BRep.lt {b : Nat} {k : Blk} (H : BRep ρ al w b k) (ho : k.own = true) (hc : (ρ b).cap ≠ 0) : (ρ b).blk < w.heap.size := by
  obtain ⟨cur, fr, h1, _⟩ := (H.room ho).2.2 hc
  exact (Array.getElem?_eq_some_iff.1 h1).1

/-- The blocks that are named are where they were; new ones stand beside them. -/
theorem WRep.step (H : WRep B w0 ρ al h w) (E : Ext ρ ρ' al al') (hb : Keeps B.S w0 w') (hw : ∀ b k, hget h b = some k → k.els ≠ [] ∨ (k.own = true ∧ (ρ b).cap ≠ 0) → w'.heap[(ρ b).blk]? = w.heap[(ρ b).blk]?) (hm : ∀ b, (∃ o y, al.M b o = some y) → w'.heap[b]? = w.heap[b]?) (hM : al'.M = al.M := by rfl) : WRep B w0 ρ' al' h w' := by
  have e : ∀ {b k}, hget h b = some k → ρ' b = ρ b := fun hk => E.eq _ (H.blk _ _ hk).here
  refine ⟨H.base, hb, fun b k hk => (H.blk b k hk).ext' E (hw b k hk), ?_, ?_, ?_, ?_, ?_, ?_, by rw [hM]; exact H.memOld, fun j l hj => ⟨E.al j (H.pins j l hj).1, (E.eq j (H.pins j l hj).1).trans (H.pins j l hj).2⟩⟩
  · intro b k hk; rw [e hk]; exact H.own b k hk
  · intro b k hk; rw [e hk]; exact H.old b k hk
  · intro b c k l hk hl; rw [e hk, e hl]; exact H.apart b c k l hk hl
  · intro b o y hy
    rw [hM] at hy
    rw [World.cell?_of_block (w := w) (by exact hm b ⟨o, y, hy⟩)]
    exact H.mem b o y hy
  · intro b k hk; rw [e hk, hM]; exact H.memOwn b k hk
  · intro b o y hy; rw [hM] at hy; exact H.memNew b o y hy

/-- A block that is named and that has cells lies in the world. -/
theorem WRep.lt (H : WRep B w0 ρ al h w) {b : Nat} {k : Blk} (hk : hget h b = some k) (hc : k.els ≠ [] ∨ (k.own = true ∧ (ρ b).cap ≠ 0)) : (ρ b).blk < w.heap.size := by
  cases ho : k.own with
  | true =>
    refine (H.blk b k hk).lt ho ?_
    rcases hc with hc | hc
    · have := (H.blk b k hk).cap
      intro h0
      have : k.els.length = 0 := by omega
      exact hc (List.eq_nil_of_length_eq_zero this)
    · exact hc.2
  | false =>
    have hn : k.els ≠ [] := hc.resolve_right (by rw [ho]; simp)
    exact H.size _ (H.old b k hk ho hn)

/-- The same, seen from here on. -/
theorem WRep.gok (H : WRep B w0 ρ al h w) : Gok al.M := B.gok.mono H.memOld
theorem WRep.rebase (H : WRep B w0 ρ al h w) : WRep ⟨B.S, al.M, B.pl, B.ds, H.gok⟩ w ρ al h w :=
  ⟨H.size, .refl _ _, H.blk, H.own, H.old, H.apart, H.mem, H.memOwn, fun b o y hy => .inl hy, Mem.le_refl _, H.pins⟩

/-- And back. -/
theorem WRep.unbase (H : WRep B w0 ρ al h w) {g : Gok al.M} (H' : WRep ⟨B.S, al.M, B.pl, B.ds, g⟩ w ρ' al' h' w') : WRep B w0 ρ' al' h' w' :=
  ⟨H.base, H.below.trans H'.below, H'.blk, H'.own, H'.old, H'.apart, H'.mem, H'.memOwn, fun b o y hy => (H'.memNew b o y hy).elim (H.memNew b o y) .inr, Mem.le_trans H.memOld H'.memOld, H'.pins⟩

theorem WRep.drew (H : WRep B w0 ρ al h w) : WRep B w0 ρ al h w.drew :=
  H.step (.refl _ _) H.below.drew (fun _ _ _ _ => rfl) (fun _ _ => rfl)

/-- less is named -/
theorem WRep.sub (H : WRep B w0 ρ al h w) (hs : ∀ b k, hget h' b = some k → hget h b = some k) : WRep B w0 ρ al h' w :=
  ⟨H.base, H.below, fun b k hk => H.blk b k (hs b k hk), fun b k hk => H.own b k (hs b k hk), fun b k hk => H.old b k (hs b k hk), fun b c k l hk hl => H.apart b c k l (hs b k hk) (hs c l hl), H.mem, fun b k hk => H.memOwn b k (hs b k hk), H.memNew, H.memOld, H.pins⟩

def al1 (al : Al) (id : Nat) : Al := ⟨fun b => al b ∨ b = id, al.M⟩
def ρ1 (ρ : Nat → Loc) (id : Nat) (l : Loc) : Nat → Loc := fun b => if b = id then l else ρ b

theorem Ext.new {id : Nat} (hid : ¬ al id) (l : Loc) : Ext ρ (ρ1 ρ id l) al (al1 al id) :=
  ⟨fun b hb => by unfold ρ1; rw [if_neg (by rintro rfl; exact hid hb)], Mem.le_refl _, fun _ hb => .inl hb⟩

theorem ρ1_id (ρ : Nat → Loc) (id : Nat) (l : Loc) : ρ1 ρ id l id = l := if_pos rfl

/-- One block more, the call's own. -/
theorem WRep.more (H : WRep B w0 ρ al h w) {b : Nat} {k : Blk} (hb : BRep ρ al w b k) (ho : k.own = true) (hB : (ρ b).cap ≠ 0 → ¬ B.S (ρ b).blk) (hMb : (ρ b).cap ≠ 0 → ∀ o, al.M (ρ b).blk o = none) (hap : ∀ c l, hget h c = some l → l.own = true → (ρ c).cap ≠ 0 → c ≠ b → (ρ b).cap ≠ 0 → (ρ c).blk ≠ (ρ b).blk) : WRep B w0 ρ al ((b, some k) :: h) w := by
  have g : ∀ {c l}, hget ((b, some k) :: h) c = some l → (c = b ∧ l = k) ∨ (c ≠ b ∧ hget h c = some l) := by
    intro c l hc
    rw [hget] at hc
    split at hc
    · rename_i e; subst e; injection hc with e; subst e; exact .inl ⟨rfl, rfl⟩
    · rename_i e; exact .inr ⟨fun e' => e e'.symm, hc⟩
  refine ⟨H.base, H.below, ?_, ?_, ?_, ?_, H.mem, ?_, H.memNew, H.memOld, H.pins⟩
  · intro c l hc
    rcases g hc with ⟨rfl, rfl⟩ | ⟨_, hc⟩
    · exact hb
    · exact H.blk c l hc
  · intro c l hc
    rcases g hc with ⟨rfl, rfl⟩ | ⟨_, hc⟩
    · exact fun _ => hB
    · exact H.own c l hc
  · intro c l hc
    rcases g hc with ⟨rfl, rfl⟩ | ⟨_, hc⟩
    · intro h1; rw [ho] at h1; cases h1
    · exact H.old c l hc
  · intro c d l m hc hd ol om cl cm hne
    rcases g hc with ⟨e1, _⟩ | ⟨nc, hc'⟩ <;> rcases g hd with ⟨e2, _⟩ | ⟨nd, hd'⟩
    · exact (hne (e1.trans e2.symm)).elim
    · rw [e1] at cl ⊢
      exact fun e => hap d m hd' om cm nd cl e.symm
    · rw [e2] at cm ⊢
      exact hap c l hc' ol cl nc cm
    · exact H.apart c d l m hc' hd' ol om cl cm hne
  · intro c l hc
    rcases g hc with ⟨rfl, rfl⟩ | ⟨_, hc⟩
    · exact fun _ => hMb
    · exact H.memOwn c l hc

/-- cells of a block that is laid now -/
def laid (cells : List Value) (sz : Nat) (els : List (List LV)) (ρ : Nat → Loc) (al : Al) : Prop :=
  (∀ e ∈ els, e.length = sz) ∧ ∀ i j x, cellAt els i j = some x → ∃ y, cells[i * sz + j]? = some y ∧ y.oneCell' = true ∧ LRep ρ al x y

theorem WRep.allocF (H : WRep B w0 ρ al h w) {id : Nat} (hid : ¬ al id) (T : TypeId) (sz cap : Nat) (els : List (List LV)) (cells : Array Value) (fr : Nat × Nat) (hfr : fr.1 = fr.2 ∨ cells.size ≤ fr.1) (hs : cells.size = cap * sz) (hm : cap ≤ maxLen) (hn : els.length ≤ cap) (hl : laid cells.toList sz els ρ al) :
    ∃ ρ', Ext ρ ρ' al (al1 al id) ∧ ρ' id = ⟨w.heap.size, 0, sz, cap, true⟩ ∧ WRep B w0 ρ' (al1 al id) ((id, some ⟨true, T, sz, els⟩) :: h) (w.alloc (.cells cells T fr)) := by
  have E : Ext ρ (ρ1 ρ id ⟨w.heap.size, 0, sz, cap, true⟩) al (al1 al id) := Ext.new hid _
  have e := ρ1_id ρ id ⟨w.heap.size, 0, sz, cap, true⟩
  generalize ρ1 ρ id ⟨w.heap.size, 0, sz, cap, true⟩ = ρ' at *
  have hnew := heap_alloc_new w (.cells cells T fr)
  have H1 : WRep B w0 ρ' (al1 al id) h (w.alloc (.cells cells T fr)) :=
    H.step E (H.below.alloc H.size _) (fun b k hk hc => Below.heap_alloc _ _ _ (H.lt hk hc)) (fun b ⟨_, _, hb⟩ => Below.heap_alloc _ _ _ (H.memLt hb))
  refine ⟨ρ', E, e, H1.more ⟨.inr rfl, by rw [e], by rw [e], hl.1, by rw [e]; exact hn, ?_, ?_⟩ rfl (fun _ => by rw [e]; exact fun hS => Nat.lt_irrefl _ (H.size _ hS)) (fun _ o => by
    rw [e]
    cases hy : (al1 al id).M w.heap.size o with
    | none => rfl
    | some y => exact absurd (H.memLt (o := o) (y := y) hy) (Nat.lt_irrefl _)) ?_⟩
  · intro i j x hx
    obtain ⟨y, h1, h2, h3⟩ := hl.2 i j x hx
    refine ⟨y, ?_, h2, h3.ext E⟩
    rw [e]
    show (w.alloc (.cells cells T fr)).cell? ⟨w.heap.size, 0 + i * sz + j, none⟩ = _
    rw [cell_of_row _ _ _ _ _ _ hnew, Nat.zero_add]
    simpa using h1
  · intro _
    rw [e]
    exact ⟨rfl, hm, fun _ => ⟨cells, fr, hnew, hs, hfr⟩⟩
  · intro c l hl' ol cl hne _
    rw [e, E.eq c (H.blk c l hl').here]
    have : (ρ c).blk < w.heap.size := (H.blk c l hl').lt ol (by rw [← E.eq c (H.blk c l hl').here]; exact cl)
    show (ρ c).blk ≠ w.heap.size
    omega

theorem WRep.alloc (H : WRep B w0 ρ al h w) {id : Nat} (hid : ¬ al id) (T : TypeId) (sz cap : Nat) (els : List (List LV)) (cells : Array Value) (hs : cells.size = cap * sz) (hm : cap ≤ maxLen) (hn : els.length ≤ cap) (hl : laid cells.toList sz els ρ al) :
    ∃ ρ', Ext ρ ρ' al (al1 al id) ∧ ρ' id = ⟨w.heap.size, 0, sz, cap, true⟩ ∧ WRep B w0 ρ' (al1 al id) ((id, some ⟨true, T, sz, els⟩) :: h) (w.alloc (.cells cells T)) :=
  H.allocF hid T sz cap els cells (0, 0) (.inl rfl) hs hm hn hl

end

end Go.Proofs.YtcdbldakjepjiaaDoor
