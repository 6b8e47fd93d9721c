/- The value logic with lasting memory, part 3: what single operations do. No program in sight. -/
import Derived.Test.YtcdbldakjepjiaaDoorU2
import Derived.Great.BuildSlice
set_option linter.unusedVariables false
set_option linter.unusedSimpArgs false
namespace Go.Proofs.YtcdbldakjepjiaaDoor
open Go.RowKit

/-- What an operation comes to: under which condition, its result, which blocks it changes. -/
structure Res where
  ob : Prop
  r : AV
  E : Heap

/-! ### What the program's table of types says -/
def szOf (P : Program) (t : TypeId) : Option Nat := (P.info? t).map (·.size)
def rowOf (P : Program) (t : TypeId) : Option Bool := (P.underlying t).map (·.isRow)
def offOf (P : Program) (t : TypeId) (f : Nat) : Option Nat :=
  match P.underlying t with
  | some (.struct fs) => match fs[f]? with
    | some x => match szOf P x.type with
      | some 0 => none
      | some _ => some x.offset
      | none => none
    | none => none
  | _ => none
/-- a variable's first value -/
def zeroOf (P : Program) (t : TypeId) : Option (List Value) :=
  match P.info? t with
  | some i => match i.zero with
    | some z => if z.cells.size = i.size && z.cells.toList.all (·.oneCell') then some z.cells.toList else none
    | none => none
  | none => none
def elOf (P : Program) (t : TypeId) : Option TypeId :=
  match P.underlying t with
  | some (.slice e) => some e
  | _ => none
def arrOf (P : Program) (t : TypeId) : Option (Nat × Nat) :=
  match P.underlying t with
  | some (.array n e) => match szOf P e with
    | some s => if 2 ≤ n then some (n, s) else none
    | none => none
  | _ => none
def bytesOf' (P : Program) (t : TypeId) : Option Nat := (P.info? t).map (·.bytes)

def ofD : D → LV
  | .v x => .v x
  | d => .d d
def ofDs (l : List D) : List LV := l.map ofD

theorem ofD_rep {ρ : Nat → Loc} {al : Al} {x : D} {y : Value} : LRep ρ al (ofD x) y ↔ DRep al.M x y := by
  cases x <;> simp only [ofD, LRep, DRep]

theorem DsAt.get {M : Mem} {blk : Nat} : ∀ {xs : List D} {off : Nat}, DsAt M blk off xs → ∀ (j : Nat) (x : D), xs[j]? = some x → ∃ y, M blk (off + j) = some y ∧ y.oneCell' = true ∧ DRep M x y
  | [], _, _, j, x, hx => by simp at hx
  | z :: zs, off, h, 0, x, hx => by
    simp only [DsAt] at h
    simp at hx
    subst hx
    exact h.1
  | z :: zs, off, h, j + 1, x, hx => by
    simp only [DsAt] at h
    have := DsAt.get h.2 j x (by simpa using hx)
    rwa [show off + 1 + j = off + (j + 1) by omega] at this

theorem DsAt.drop {M : Mem} {blk : Nat} : ∀ (k : Nat) {xs : List D} {off : Nat}, DsAt M blk off xs → DsAt M blk (off + k) (xs.drop k)
  | 0, xs, off, h => by simpa using h
  | k + 1, [], off, h => by simp only [List.drop_nil, DsAt]
  | k + 1, x :: xs, off, h => by
    simp only [DsAt] at h
    have := DsAt.drop k h.2
    rw [show off + 1 + k = off + (k + 1) by omega] at this
    simpa using this

theorem DsAt.of {M : Mem} {blk : Nat} : ∀ {xs : List D} {off : Nat}, (∀ (j : Nat) (x : D), xs[j]? = some x → ∃ y, M blk (off + j) = some y ∧ y.oneCell' = true ∧ DRep M x y) → DsAt M blk off xs
  | [], _, _ => by simp only [DsAt]
  | z :: zs, off, h => by
    simp only [DsAt]
    refine ⟨by simpa using h 0 z rfl, DsAt.of fun j x hx => ?_⟩
    have := h (j + 1) x (by simpa using hx)
    rwa [show off + (j + 1) = off + 1 + j by omega] at this

theorem DssAt.get {M : Mem} {blk sz : Nat} : ∀ {els : List (List D)} {off : Nat}, DssAt M blk off sz els → ∀ (i : Nat) (e : List D), els[i]? = some e → e.length = sz ∧ DsAt M blk (off + i * sz) e
  | [], _, _, i, e, he => by simp at he
  | z :: zs, off, h, 0, e, he => by
    simp only [DssAt] at h
    simp at he
    subst he
    exact ⟨h.1, by simpa using h.2.1⟩
  | z :: zs, off, h, i + 1, e, he => by
    simp only [DssAt] at h
    have := DssAt.get h.2.2 i e (by simpa using he)
    rwa [show off + sz + i * sz = off + (i + 1) * sz by rw [Nat.succ_mul]; omega] at this

theorem DssAt.of {M : Mem} {blk sz : Nat} : ∀ {els : List (List D)} {off : Nat}, (∀ (i : Nat) (e : List D), els[i]? = some e → e.length = sz ∧ DsAt M blk (off + i * sz) e) → DssAt M blk off sz els
  | [], _, _ => by simp only [DssAt]
  | z :: zs, off, h => by
    simp only [DssAt]
    have h0 := h 0 z rfl
    refine ⟨h0.1, by simpa using h0.2, DssAt.of fun i e he => ?_⟩
    have := h (i + 1) e (by simpa using he)
    rwa [show off + (i + 1) * sz = off + sz + i * sz by rw [Nat.succ_mul]; omega] at this

theorem DsRep.length {M : Mem} : ∀ {xs : List D} {ys : List Value}, DsRep M xs ys → ys.length = xs.length
  | [], [], _ => rfl
  | x :: xs, y :: ys, h => by
    simp only [DsRep] at h
    simp [DsRep.length h.2.2]
  | [], _ :: _, h => by simp only [DsRep] at h
  | _ :: _, [], h => by simp only [DsRep] at h

theorem DsRep.ls {M : Mem} {ρ : Nat → Loc} {al : Al} (hM : al.M = M) : ∀ {xs : List D} {ys : List Value}, DsRep M xs ys → LsRep ρ al (ofDs xs) ys
  | [], [], _ => trivial
  | x :: xs, y :: ys, h => by
    simp only [DsRep] at h
    exact ⟨h.1, ofD_rep.2 (hM ▸ h.2.1), DsRep.ls hM h.2.2⟩
  | [], _ :: _, h => by simp only [DsRep] at h
  | _ :: _, [], h => by simp only [DsRep] at h

/-- a part of the lasting memory, as it lies in the world -/
theorem WRep.lasting {B : Base} {w0 : World} {ρ : Nat → Loc} {al : Al} {h : Heap} {w : World} (H : WRep B w0 ρ al h w) {blk off n : Nat} {xs : List D} (hx : DsAt al.M blk off xs) (hn : n ≤ xs.length) :
    ∃ ys : List Value, ys.length = n ∧ LsRep ρ al (ofDs (xs.take n)) ys ∧ ∀ (m : Nat) (y : Value), ys[m]? = some y → w.cell? ⟨blk, off + m, none⟩ = some y := by
  have key : ∀ (m : Nat) (z : D), (xs.take n)[m]? = some z → ((w.cell? ⟨blk, off + m, none⟩).getD undef).oneCell' = true ∧ DRep al.M z ((w.cell? ⟨blk, off + m, none⟩).getD undef) ∧ w.cell? ⟨blk, off + m, none⟩ = some ((w.cell? ⟨blk, off + m, none⟩).getD undef) := by
    intro m z hz
    rw [List.getElem?_take] at hz
    split at hz
    · obtain ⟨y, h1, h2, h3⟩ := hx.get m z hz
      rw [H.mem _ _ _ h1]
      exact ⟨h2, h3, rfl⟩
    · cases hz
  refine ⟨(List.range (ofDs (xs.take n)).length).map fun m => (w.cell? ⟨blk, off + m, none⟩).getD undef, by simp [ofDs]; omega, LsRep.of_get fun j x hx => ?_, ?_⟩
  · simp only [ofDs, List.getElem?_map, Option.map_eq_some_iff] at hx
    obtain ⟨z, hz, rfl⟩ := hx
    exact ⟨(key j z hz).1, ofD_rep.2 (key j z hz).2.1⟩
  · intro m y hy
    have hm : m < (xs.take n).length := by have := (List.getElem?_eq_some_iff.1 hy).1; simpa [ofDs] using this
    rw [List.getElem?_map, List.getElem?_range (by simpa [ofDs] using hm), Option.map_some] at hy
    injection hy with hy
    rw [(key m _ (List.getElem?_eq_getElem hm)).2.2, hy]

def D.one : D → Bool
  | .v x => x.oneCell'
  | _ => true

def LV.one : LV → Bool
  | .v x => x.oneCell'
  | .d x => x.one
  | .sl .. => true
  | .p .. => true
  | .any => false

def LV.toD0 : LV → Option D
  | .v x => some (.v x)
  | .d x => some x
  | _ => none
def toDs0 : List LV → Option (List D)
  | [] => some []
  | x :: r => match x.toD0, toDs0 r with
    | some d, some l => some (d :: l)
    | _, _ => none

theorem LV.toD0_rep {ρ : Nat → Loc} {al : Al} {x : LV} {d : D} {y : Value} (h : x.toD0 = some d) (hr : LRep ρ al x y) : DRep al.M d y := by
  cases x <;> simp only [LV.toD0, Option.some.injEq, reduceCtorEq] at h
  · subst h; simp only [DRep]; exact hr
  · subst h; exact hr
theorem toDs0_rep {ρ : Nat → Loc} {al : Al} : ∀ {xs : List LV} {ds : List D} {ys : List Value}, toDs0 xs = some ds → LsRep ρ al xs ys → DsRep al.M ds ys
  | [], ds, [], h, _ => by simp only [toDs0, Option.some.injEq] at h; subst h; simp only [DsRep]
  | x :: xs, ds, y :: ys, h, ⟨a, b, c⟩ => by
    simp only [toDs0] at h
    split at h
    case h_2 => cases h
    rename_i d l h1 h2
    injection h with h
    subst h
    simp only [DsRep]
    exact ⟨a, LV.toD0_rep h1 b, toDs0_rep h2 c⟩

def cellsOf : AV → Option (List LV)
  | .s (.l x) => if x.one then some [x] else none
  | .s (.agg xs) => some xs
  | .tup _ => none
  | .fn g first cap => match toDs0 first, toDs0 cap with
    | some f, some c => some [.d (.fn g f c)]
    | _, _ => none

section
variable {P : Program} {ρ : Nat → Loc} {al : Al}

theorem szOf_run {t : TypeId} {n : Nat} (h : szOf P t = some n) (w : World) : (sizeOf t).run P w = .ok n w := by
  unfold szOf at h
  cases hi : P.info? t with
  | none => simp [hi] at h
  | some i => simp [hi] at h; simp [sizeOf, typeInfo, hi, h]

theorem szOf_info {t : TypeId} {n : Nat} (h : szOf P t = some n) : (P.info? t).map (·.size) = some n := h

theorem cells_one {y : Value} (h : y.oneCell' = true) : y.cells = #[y] := by
  cases y <;> first | rfl | cases h

theorem LRep.one {x : LV} {y : Value} (h : LRep ρ al x y) (h1 : x.one = true) : y.oneCell' = true := by
  cases x with
  | v x => rw [h]; exact h1
  | d x =>
    cases x with
    | v x => simp only [LRep, DRep] at h; rw [h]; exact h1
    | sd _ _ => simp only [LRep, DRep] at h; obtain ⟨A, cap, e, _⟩ := h; rw [e]; rfl
    | pd _ => simp only [LRep, DRep] at h; obtain ⟨_, _, e, _⟩ := h; rw [e]; rfl
    | fn _ _ _ => simp only [LRep, DRep] at h; obtain ⟨_, _, e, _⟩ := h; rw [e]; rfl
    | ifc _ _ => simp only [LRep, DRep] at h; obtain ⟨_, e, _⟩ := h; rw [e]; rfl
  | any => cases h1
  | p b i j => obtain ⟨_, e⟩ := h; rw [e]; rfl
  | sl b i n => obtain ⟨_, A, e, _⟩ := h; rw [e]; rfl

theorem cellsOf_rep {x : AV} {xs : List LV} {y : Value} (h : ARep ρ al x y) (hx : cellsOf x = some xs) : LsRep ρ al xs y.cells.toList := by
  cases x with
  | tup _ => cases hx
  | fn g f c =>
    simp only [cellsOf] at hx
    split at hx
    case h_2 => cases hx
    rename_i fd cd h1 h2
    injection hx with hx
    subst hx
    obtain ⟨fs, cs, rfl, g1, g2⟩ := h
    refine ⟨rfl, ?_, trivial⟩
    simp only [LRep, DRep]
    exact ⟨fs, cs, rfl, toDs0_rep h1 g1, toDs0_rep h2 g2⟩
  | s x =>
    cases x with
    | l x =>
      simp only [cellsOf] at hx
      split at hx
      · rename_i h1
        injection hx with hx
        subst hx
        have := LRep.one h h1
        rw [cells_one this]
        exact ⟨this, h, trivial⟩
      · cases hx
    | agg zs =>
      simp only [cellsOf, Option.some.injEq] at hx
      subst hx
      obtain ⟨cs, rfl, h⟩ := h
      simpa [Value.cells] using h
end

section
variable {P : Program} {B : Base} {w0 : World} {ρ : Nat → Loc} {al : Al} {h : Heap} {w : World}

/-! ### load -/
def aLoad (P : Program) (t : TypeId) (x : AV) (h : Heap) : Option Res :=
  match x with
  | .s (.l (.p b i j)) => match hget h b with
    | some k => match k.els[i]?, szOf P t, rowOf P t with
      | some e, some n, some true => if j + n ≤ k.sz then some ⟨True, .s (.agg ((e.drop j).take n)), []⟩ else none
      | some e, some _, some false => match e[j]? with
        | some y => some ⟨True, .s (.l y), []⟩
        | none => none
      | _, _, _ => none
    | none => none
  | .s (.l (.d (.pd xs))) => match szOf P t, rowOf P t with
    | some n, some true => if n ≤ xs.length then some ⟨True, .s (.agg (ofDs (xs.take n))), []⟩ else none
    | some _, some false => match xs[0]? with
      | some y => some ⟨True, .s (.l (ofD y)), []⟩
      | none => none
    | _, _ => none
  | _ => none

theorem row_true {t : TypeId} (hr : rowOf P t = some true) : ∃ d, P.underlying t = some d ∧ d.isRow = true := by
  unfold rowOf at hr
  cases hu : P.underlying t with
  | none => simp [hu] at hr
  | some d => exact ⟨d, rfl, by simpa [hu] using hr⟩

theorem row_false {t : TypeId} (hr : rowOf P t = some false) (w : World) : (isAgg t).run P w = .ok false w := by
  unfold rowOf at hr
  cases hu : P.underlying t with
  | none => simp [hu] at hr
  | some d =>
    unfold isAgg
    rw [Sem.run_bind, run_underlying hu w]
    simp only [hu, Option.map_some, Option.some.injEq] at hr
    cases d <;> simp_all [TypeDesc.isRow]

theorem aLoad_sound (H : WRep B w0 ρ al h w) {t : TypeId} {x : AV} {u : Value} (hx : ARep ρ al x u) {R : Res} (hs : aLoad P t x h = some R) :
    ∃ v, (Instr.loadAt t u).run P w = .ok v w ∧ ARep ρ al R.r v ∧ R.E = [] := by
  unfold aLoad at hs
  split at hs
  case h_3 => cases hs
  case h_2 =>
    rename_i xs
    simp only [ARep, SRep, LRep, DRep] at hx
    obtain ⟨blk, off, rfl, hat⟩ := hx
    split at hs
    · rename_i n hn hr
      split at hs
      case isFalse => cases hs
      rename_i hle
      injection hs with hs
      subst hs
      obtain ⟨ys, h1, h2, h3⟩ := H.lasting hat hle
      obtain ⟨d, hd, hd2⟩ := row_true hr
      exact ⟨_, run_loadAt_mid w blk off t ys d h3 hd hd2 (by rw [szOf_info hn, h1]), ⟨_, rfl, h2⟩, rfl⟩
    · rename_i n hn hr
      split at hs
      case h_2 => cases hs
      rename_i y hy
      injection hs with hs
      subst hs
      obtain ⟨v, h1, h2, h3⟩ := hat.get 0 y hy
      have h4 := H.mem _ _ _ h1
      refine ⟨v, ?_, ofD_rep.2 h3, rfl⟩
      simp only [Nat.add_zero] at h4
      simp [Instr.loadAt, Instr.sureAddr, loadVar, row_false hr, h4]
    · cases hs
  rename_i b i j
  split at hs
  case h_2 => cases hs
  rename_i k hk
  have Hb := H.blk b k hk
  obtain ⟨-, rfl⟩ := hx
  split at hs
  · rename_i e n he hn hr
    split at hs
    · rename_i hj
      injection hs with hs
      subst hs
      have hel : e.length = k.sz := Hb.len e (List.mem_of_getElem? he)
      have key : ∀ (m : Nat) (z : LV), ((e.drop j).take n)[m]? = some z → ((w.cell? ⟨(ρ b).blk, (ρ b).off + i * (ρ b).sz + j + m, none⟩).getD undef).oneCell' = true ∧ LRep ρ al z ((w.cell? ⟨(ρ b).blk, (ρ b).off + i * (ρ b).sz + j + m, none⟩).getD undef) ∧ w.cell? ⟨(ρ b).blk, (ρ b).off + i * (ρ b).sz + j + m, none⟩ = some ((w.cell? ⟨(ρ b).blk, (ρ b).off + i * (ρ b).sz + j + m, none⟩).getD undef) := by
        intro m z hz
        rw [List.getElem?_take] at hz
        split at hz
        · rw [List.getElem?_drop] at hz
          obtain ⟨y, h1, h2, h3⟩ := Hb.cells i (j + m) z (cellAt_some.2 ⟨e, he, hz⟩)
          rw [Nat.add_assoc _ j m, h1]
          exact ⟨h2, h3, rfl⟩
        · cases hz
      have hrep := LsRep.of_get (ρ := ρ) (al := al) (xs := (e.drop j).take n) (f := fun m => (w.cell? ⟨(ρ b).blk, (ρ b).off + i * (ρ b).sz + j + m, none⟩).getD undef) fun m z hz => ⟨(key m z hz).1, (key m z hz).2.1⟩
      have hl : ((e.drop j).take n).length = n := by simp; omega
      rw [hl] at hrep
      obtain ⟨d, hd, hd2⟩ : ∃ d, P.underlying t = some d ∧ d.isRow = true := by
        unfold rowOf at hr
        cases hu : P.underlying t with
        | none => simp [hu] at hr
        | some d => exact ⟨d, rfl, by simpa [hu] using hr⟩
      refine ⟨_, run_loadAt_mid w (ρ b).blk ((ρ b).off + i * (ρ b).sz + j) t ((List.range n).map fun m => (w.cell? ⟨(ρ b).blk, (ρ b).off + i * (ρ b).sz + j + m, none⟩).getD undef) d ?_ hd hd2 (by rw [szOf_info hn]; simp), ⟨_, rfl, hrep⟩, rfl⟩
      intro m v hv
      have hm : m < n := by have := (List.getElem?_eq_some_iff.1 hv).1; simpa using this
      rw [List.getElem?_map, List.getElem?_range hm, Option.map_some] at hv
      injection hv with hv
      obtain ⟨z, hz⟩ : ∃ z, ((e.drop j).take n)[m]? = some z := ⟨_, List.getElem?_eq_getElem (by omega)⟩
      rw [(key m z hz).2.2, hv]
    · cases hs
  · rename_i e n he hn hr
    split at hs
    · rename_i y hy
      injection hs with hs
      subst hs
      obtain ⟨v, h1, h2, h3⟩ := Hb.cells i j y (cellAt_some.2 ⟨e, he, hy⟩)
      refine ⟨v, ?_, h3, rfl⟩
      have hagg : (isAgg t).run P w = .ok false w := by
        unfold rowOf at hr
        cases hu : P.underlying t with
        | none => simp [hu] at hr
        | some d =>
          unfold isAgg
          rw [Sem.run_bind, run_underlying hu w]
          simp only [hu, Option.map_some, Option.some.injEq] at hr
          cases d <;> simp_all [TypeDesc.isRow]
      simp [Instr.loadAt, Instr.sureAddr, loadVar, hagg, h1]
    · cases hs
  · cases hs

/-! ### store -/
def aStore (P : Program) (t : TypeId) (x y : AV) (h : Heap) : Option Res :=
  match x with
  | .s (.l (.p b i j)) => match hget h b with
    | some k => match k.els[i]?, szOf P t, cellsOf y with
      | some e, some n, some xs => if k.own = true ∧ xs.length = n ∧ j + n ≤ k.sz then some ⟨True, .s (.l .any), [(b, some { k with els := k.els.set i (splice e j xs) })]⟩ else none
      | _, _, _ => none
    | none => none
  | _ => none

theorem aStore_sound (H : WRep B w0 ρ al h w) {t : TypeId} {x y : AV} {u v : Value} (hx : ARep ρ al x u) (hy : ARep ρ al y v) {R : Res} (hs : aStore P t x y h = some R) :
    ∃ w', (Instr.storeAt t u v).run P w = .ok () w' ∧ R.r = .s (.l .any) ∧ WRep B w0 ρ al (R.E ++ h) w' := by
  unfold aStore at hs
  split at hs
  case h_2 => cases hs
  rename_i b i j
  split at hs
  case h_2 => cases hs
  rename_i k hk
  have Hb := H.blk b k hk
  obtain ⟨-, rfl⟩ := hx
  split at hs
  case h_2 => cases hs
  rename_i e n xs he hn hxs
  split at hs
  case isFalse => cases hs
  rename_i hc
  obtain ⟨ho, hl, hj⟩ := hc
  injection hs with hs
  subst hs
  have hrep := cellsOf_rep hy hxs
  have hyl := hrep.length
  have ht := H.there hk ho he (n := v.cells.toList.length) (by rw [hyl, hl]; exact hj)
  have hw := H.store hk ho he hrep (by rw [hl]; exact hj)
  refine ⟨_, ?_, rfl, hw⟩
  have := run_storeCells_cells (P := P) (ρ b).blk ((ρ b).off + i * (ρ b).sz + j) v.cells.toList 0 w (fun m hm => by simpa using (ht m hm).1) (fun m hm => by simpa using (ht m hm).2) hrep.one
  simp only [Nat.add_zero] at this
  have hsz : v.cells.size = n := by rw [← hl, ← hyl]; simp
  simp [Instr.storeAt, Instr.sureAddr, storeVar, szOf_run hn, hsz, this]

/-! ### new variables -/
def aNew (t : TypeId) (id : Nat) (xs : List LV) : Res := ⟨True, .s (.l (.p id 0 0)), [(id, some ⟨true, t, xs.length, [xs]⟩)]⟩

theorem cellAt_one {xs : List LV} {i j : Nat} {x : LV} (h : cellAt [xs] i j = some x) : i = 0 ∧ xs[j]? = some x := by
  obtain ⟨e, h1, h2⟩ := cellAt_some.1 h
  cases i with
  | zero => simp at h1; subst h1; exact ⟨rfl, h2⟩
  | succ i => simp at h1

theorem newVar_sound (H : WRep B w0 ρ al h w) {id : Nat} (hid : ¬ al id) (t : TypeId) {v : Value} {xs : List LV} (hv : LsRep ρ al xs v.cells.toList) :
    ∃ a w' ρ', (newVar t v).run P w = .ok a w' ∧ Ext ρ ρ' al (al1 al id) ∧ ARep ρ' (al1 al id) (.s (.l (.p id 0 0))) (.pointer (some a)) ∧ WRep B w0 ρ' (al1 al id) ((id, some ⟨true, t, xs.length, [xs]⟩) :: h) w' := by
  have hl := hv.length
  obtain ⟨ρ', E, e, H'⟩ := H.alloc hid t xs.length 1 [xs] v.cells (by rw [Nat.one_mul, ← hl]; simp) (by unfold maxLen; omega) (by simp) ⟨by simp, fun i j x hx => by
    obtain ⟨rfl, hx⟩ := cellAt_one hx
    simpa using hv.get j x hx⟩
  refine ⟨_, _, ρ', rfl, E, ⟨.inr rfl, ?_⟩, H'⟩
  rw [e]
  simp

/-! ### addresses -/
def aField (P : Program) (t : TypeId) (x : AV) (f : Nat) : Option Res :=
  match x, offOf P t f with
  | .s (.l (.p b i j)), some o => some ⟨True, .s (.l (.p b i (j + o))), []⟩
  | .s (.l (.d (.pd xs))), some o => some ⟨True, .s (.l (.d (.pd (xs.drop o)))), []⟩
  | _, _ => none

theorem add_add (a : Addr) (h : a.spot = none) (n : Nat) : a.add n = ⟨a.block, a.off + n, none⟩ := by
  unfold Addr.add
  obtain ⟨b, o, s⟩ := a
  simp only at h
  subst h
  split <;> simp_all

theorem aField_sound {t : TypeId} {x : AV} {u : Value} (hx : ARep ρ al x u) {f : Nat} {R : Res} (hs : aField P t x f = some R) (w : World) :
    ∃ v, (Instr.fieldAt t u f).run P w = .ok v w ∧ ARep ρ al R.r v ∧ R.E = [] := by
  have key : ∀ {o : Nat}, offOf P t f = some o → ∀ a : Addr, a.spot = none → (Instr.fieldAt t (.pointer (some a)) f).run P w = .ok (.pointer (some ⟨a.block, a.off + o, none⟩)) w := by
    intro o ho a ha
    unfold offOf at ho
    split at ho
    case h_2 => cases ho
    rename_i fs hu
    split at ho
    case h_2 => cases ho
    rename_i fld hf
    split at ho
    case h_1 => cases ho
    case h_3 => cases ho
    rename_i m hne hm
    injection ho with ho
    subst ho
    have hm0 : m ≠ 0 := fun h0 => hne h0
    simp [Instr.fieldAt, run_underlying hu, hf, Instr.sureAddr, fieldPlace, szOf_run hm, hm0, add_add _ ha]
  unfold aField at hs
  split at hs
  · rename_i b i j o ho
    injection hs with hs
    subst hs
    obtain ⟨ha, rfl⟩ := hx
    refine ⟨_, key ho _ rfl, ⟨ha, ?_⟩, rfl⟩
    simp [Nat.add_assoc]
  · rename_i xs o ho
    injection hs with hs
    subst hs
    simp only [ARep, SRep, LRep, DRep] at hx
    obtain ⟨blk, off, rfl, hat⟩ := hx
    refine ⟨_, key ho _ rfl, ?_, rfl⟩
    simp only [ARep, SRep, LRep, DRep]
    exact ⟨_, _, rfl, hat.drop o⟩
  · cases hs

def aIndexAt (P : Program) (t : TypeId) (x ix : AV) : Option Res :=
  match x, ix with
  | .s (.l (.sl b i n)), .s (.l (.v (.int _ z))) => match elOf P t with
    | some e => match szOf P e with
      | some _ => some ⟨0 ≤ z ∧ z < n, .s (.l (.p b (i + z.toNat) 0)), []⟩
      | none => none
    | none => none
  | .s (.l (.p b i j)), .s (.l (.v (.int _ z))) => match arrOf P t with
    | some (n, s) => some ⟨0 ≤ z ∧ z < n, .s (.l (.p b i (j + z.toNat * s))), []⟩
    | none => none
  | .s (.l (.d (.pd xs))), .s (.l (.v (.int _ z))) => match arrOf P t with
    | some (n, s) => some ⟨0 ≤ z ∧ z < n, .s (.l (.d (.pd (xs.drop (z.toNat * s))))), []⟩
    | none => none
  | .s (.l (.d (.sd sz els))), .s (.l (.v (.int _ z))) => match elOf P t with
    | some e => if szOf P e = some sz then match els[z.toNat]? with
      | some el => some ⟨0 ≤ z, .s (.l (.d (.pd el))), []⟩
      | none => none
      else none
    | none => none
  | _, _ => none

/-- the elements' size fits the block -/
def fitsAt (P : Program) (t : TypeId) (x : AV) (h : Heap) : Bool :=
  match x with
  | .s (.l (.sl b _ _)) => match hget h b, elOf P t with
    | some k, some e => szOf P e == some k.sz
    | _, _ => false
  | _ => true

theorem aIndexAt_sound (H : WRep B w0 ρ al h w) {t : TypeId} {x ix : AV} {u v : Value} (hx : ARep ρ al x u) (hix : ARep ρ al ix v) {R : Res} (hs : aIndexAt P t x ix = some R) (hf : fitsAt P t x h = true) (hob : R.ob) :
    ∃ y, (Instr.indexAt t u v).run P w = .ok y w ∧ ARep ρ al R.r y ∧ R.E = [] := by
  have key : ∀ {n s : Nat} {kk : IntKind} {z : Int}, arrOf P t = some (n, s) → 0 ≤ z → z < n → ∀ a : Addr, a.spot = none → (Instr.indexAt t (.pointer (some a)) (.int kk z)).run P w = .ok (.pointer (some ⟨a.block, a.off + z.toNat * s, none⟩)) w := by
    intro n s kk z harr h0 h1 a ha
    unfold arrOf at harr
    split at harr
    case h_2 => cases harr
    rename_i n' e hu
    split at harr
    case h_2 => cases harr
    rename_i s' hsz
    split at harr
    case isFalse => cases harr
    rename_i h2
    injection harr with harr
    injection harr with e1 e2
    subst e1
    subst e2
    simp [Instr.indexAt, run_underlying hu, asIntOf, Instr.sureAddr, h0, h1, szOf_run hsz, add_add _ ha]
  unfold aIndexAt at hs
  split at hs
  · rename_i b i n kk z
    split at hs
    case h_2 => cases hs
    rename_i e he
    split at hs
    case h_2 => cases hs
    rename_i s hsz
    injection hs with hs
    subst hs
    obtain ⟨h0, h1⟩ := hob
    obtain ⟨ha, A, rfl, hcap, hA⟩ := hx
    have : v = .int kk z := hix
    subst this
    simp only [fitsAt] at hf
    split at hf
    case h_2 => cases hf
    rename_i k e' hk he'
    rw [he] at he'
    injection he' with he'
    subst he'
    rw [hsz] at hf
    have hs2 : s = k.sz := by simpa using hf
    subst hs2
    have hu : P.underlying t = some (.slice e) := by
      unfold elOf at he
      split at he
      · rename_i e2 hu; injection he with he; rw [hu, he]
      · cases he
    have hsz' := (H.blk b k hk).sz
    refine ⟨_, ?_, ⟨ha, rfl⟩, rfl⟩
    have hA' := hA (by omega)
    simp [Instr.indexAt, run_underlying hu, asIntOf, hA', h0, h1, szOf_run hsz, add_add, hsz', Nat.add_mul, Nat.add_assoc]
  · rename_i b i j kk z
    split at hs
    case h_2 => cases hs
    rename_i n s harr
    injection hs with hs
    subst hs
    obtain ⟨h0, h1⟩ := hob
    obtain ⟨ha, rfl⟩ := hx
    have : v = .int kk z := hix
    subst this
    refine ⟨_, key harr h0 h1 _ rfl, ⟨ha, ?_⟩, rfl⟩
    simp [Nat.add_assoc]
  · rename_i xs kk z
    split at hs
    case h_2 => cases hs
    rename_i n s harr
    injection hs with hs
    subst hs
    obtain ⟨h0, h1⟩ := hob
    simp only [ARep, SRep, LRep, DRep] at hx
    obtain ⟨blk, off, rfl, hat⟩ := hx
    have : v = .int kk z := hix
    subst this
    refine ⟨_, key harr h0 h1 _ rfl, ?_, rfl⟩
    simp only [ARep, SRep, LRep, DRep]
    exact ⟨_, _, rfl, hat.drop _⟩
  · rename_i sz els kk z
    split at hs
    case h_2 => cases hs
    rename_i e he
    split at hs
    case isFalse => cases hs
    rename_i hsz
    split at hs
    case h_2 => cases hs
    rename_i el hel
    injection hs with hs
    subst hs
    simp only at hob
    simp only [ARep, SRep, LRep, DRep] at hx
    obtain ⟨A, cap, rfl, hcap, hA⟩ := hx
    have : v = .int kk z := hix
    subst this
    have hlt : z.toNat < els.length := (List.getElem?_eq_some_iff.1 hel).1
    obtain ⟨blk, off, rfl, hat⟩ := hA (by intro h0; rw [h0] at hlt; simp at hlt)
    have hu : P.underlying t = some (.slice e) := by
      unfold elOf at he
      split at he
      · rename_i e2 hu; injection he with he; rw [hu, he]
      · cases he
    have h1 : z < els.length := by omega
    refine ⟨.pointer (some ⟨blk, off + z.toNat * sz, none⟩), ?_, ?_, rfl⟩
    · simp [Instr.indexAt, run_underlying hu, asIntOf, hob, h1, szOf_run hsz, add_add]
    · simp only [ARep, SRep, LRep, DRep]
      exact ⟨_, _, rfl, (hat.get _ _ hel).2⟩
  · cases hs

end

end Go.Proofs.YtcdbldakjepjiaaDoor
