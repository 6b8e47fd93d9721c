/- The value logic with lasting memory, part 6: slices of slices, append, calls; every operation. No program in sight. -/
import Derived.Test.YtcdbldakjepjiaaDoorU5
import Derived.Laws.IdiomStrings
import Derived.Laws.MakeOwn
set_option linter.unusedVariables false
set_option linter.unusedSimpArgs false
namespace Go.Proofs.YtcdbldakjepjiaaDoor
open Go.RowKit

/-- the numbers that an operation may give to new blocks -/
def alW (al : Al) (id : Nat) : Al := ⟨fun b => al b ∨ (id ≤ b ∧ b < id + 16), al.M⟩

section
variable {P : Program} {B : Base} {w0 : World} {ρ ρ' : Nat → Loc} {al al' : Al} {h : Heap} {w : World}

theorem WRep.lift (H : WRep B w0 ρ al h w) (hi : ∀ b, al b → al' b) (hM : al'.M = al.M := by rfl) : WRep B w0 ρ al' h w := H.step ⟨fun _ _ => rfl, hM ▸ Mem.le_refl _, hi⟩ H.below (fun _ _ _ _ => rfl) (fun _ _ => rfl) hM
theorem ARep.lift {x : AV} {y : Value} (H : ARep ρ al x y) (hi : ∀ b, al b → al' b) (hM : al'.M = al.M := by rfl) : ARep ρ al' x y := H.ext ⟨fun _ _ => rfl, hM ▸ Mem.le_refl _, hi⟩
theorem LRep.lift {x : LV} {y : Value} (H : LRep ρ al x y) (hi : ∀ b, al b → al' b) (hM : al'.M = al.M := by rfl) : LRep ρ al' x y := H.ext ⟨fun _ _ => rfl, hM ▸ Mem.le_refl _, hi⟩
theorem Ext.lift (H : Ext ρ ρ' al al') {al'' : Al} (hi : ∀ b, al' b → al'' b) (hM : al''.M = al'.M := by rfl) : Ext ρ ρ' al al'' := ⟨H.eq, hM ▸ H.M, fun b hb => hi b (H.al b hb)⟩

theorem al1_alW {id j : Nat} (h1 : id ≤ j) (h2 : j < id + 16) : ∀ b, al1 al j b → alW al id b := by
  rintro b (hb | rfl)
  · exact .inl hb
  · exact .inr ⟨h1, h2⟩

/-! ### slices of slices and of strings -/
def bnd (d : Int) : Option AV → Option Int
  | none => some d
  | some (.s (.l (.v (.int _ z)))) => some z
  | some _ => none

def aSlice (P : Program) (t : TypeId) (x : AV) (lo hi mx : Option AV) (h : Heap) : Option Res :=
  match mx with
  | some _ => none
  | none => match x with
    | .s (.l (.sl b i n)) => match bnd 0 lo, bnd n hi, hget h b, elOf P t with
      | some l, some m, some k, some e => if szOf P e = some k.sz then some ⟨0 ≤ l ∧ l ≤ m ∧ m ≤ n, .s (.l (.sl b (i + l.toNat) (m.toNat - l.toNat))), []⟩ else none
      | _, _, _, _ => none
    | .s (.l (.d (.sd sz els))) => match bnd 0 lo, bnd els.length hi, elOf P t with
      | some l, some m, some e => if szOf P e = some sz then some ⟨0 ≤ l ∧ l ≤ m ∧ m ≤ els.length, .s (.l (.d (.sd sz ((els.drop l.toNat).take (m.toNat - l.toNat))))), []⟩ else none
      | _, _, _ => none
    | .s (.l (.v (.string s))) => match bnd 0 lo, bnd s.size hi with
      | some l, some m => if isStr P t then some ⟨0 ≤ l ∧ l ≤ m ∧ m ≤ s.size, .s (.l (.v (.string (s.extract l.toNat m.toNat)))), []⟩ else none
      | _, _ => none
    | .s (.l (.v (.slice none 0 0))) => match bnd 0 lo, bnd 0 hi, elOf P t with
      | some l, some m, some e => match szOf P e with
        | some _ => some ⟨l = 0 ∧ m = 0, .s (.l (.v (.slice none 0 0))), []⟩
        | none => none
      | _, _, _ => none
    | _ => none

theorem bnd_rep {d : Int} {x : Option AV} {u : Option Value} (hx : match x, u with | none, none => True | some a, some b => ARep ρ al a b | _, _ => False) {z : Int} (hb : bnd d x = some z) :
    (u = none ∧ z = d) ∨ ∃ k, u = some (.int k z) := by
  unfold bnd at hb
  split at hb
  · cases u with
    | none => injection hb with hb; exact .inl ⟨rfl, hb.symm⟩
    | some u => exact hx.elim
  · cases u with
    | none => exact hx.elim
    | some u =>
      injection hb with hb
      subst hb
      have : u = _ := hx
      exact .inr ⟨_, by rw [this]⟩
  · cases hb

theorem sliceBounds_run (s : Bool) (len cap : Nat) {lo hi : Option Value} {l m : Int} (hl : (lo = none ∧ l = 0) ∨ ∃ k, lo = some (.int k l)) (hm : (hi = none ∧ m = len) ∨ ∃ k, hi = some (.int k m)) (h0 : 0 ≤ l) (h1 : l ≤ m) (h2 : m ≤ len) (hc : len ≤ cap) (w : World) :
    (Instr.sliceBounds s len cap lo hi none).run P w = .ok (l.toNat, m.toNat, cap) w := by
  have hb : ∀ (k : IntKind) (c : BoundsCode), (Instr.sliceBound (.int k m) cap c).run P w = .ok m.toNat w := fun k c => run_sliceBound _ k m cap c (by omega) (by omega)
  have hb2 : ∀ (k : IntKind) (c : BoundsCode), (Instr.sliceBound (.int k l) m.toNat c).run P w = .ok l.toNat w := fun k c => run_sliceBound _ k l m.toNat c (by omega) (by omega)
  rcases hm with ⟨rfl, rfl⟩ | ⟨k, rfl⟩ <;> rcases hl with ⟨rfl, rfl⟩ | ⟨k', rfl⟩
  · simp [Instr.sliceBounds]
  · simp [Instr.sliceBounds] at hb2 ⊢
    simp [hb2]
  · simp [Instr.sliceBounds, hb]
  · simp [Instr.sliceBounds, hb, hb2]

theorem aSlice_sound (H : WRep B w0 ρ al h w) {t : TypeId} {x : AV} {u : Value} (hx : ARep ρ al x u) {lo hi mx : Option AV} {lo' hi' mx' : Option Value}
    (hlo : match lo, lo' with | none, none => True | some a, some b => ARep ρ al a b | _, _ => False) (hhi : match hi, hi' with | none, none => True | some a, some b => ARep ρ al a b | _, _ => False)
    (hmx : match mx, mx' with | none, none => True | some a, some b => ARep ρ al a b | _, _ => False) {R : Res} (hs : aSlice P t x lo hi mx h = some R) (hob : R.ob) :
    ∃ v, (Instr.sliceAt t u lo' hi' mx').run P w = .ok v w ∧ ARep ρ al R.r v ∧ R.E = [] := by
  unfold aSlice at hs
  split at hs
  · cases hs
  obtain rfl : mx' = none := by cases mx' <;> first | rfl | exact hmx.elim
  split at hs
  · rename_i b i n
    split at hs
    case h_2 => cases hs
    rename_i l m k e hl hm hk he
    split at hs
    case isFalse => cases hs
    rename_i hsz
    injection hs with hs
    subst hs
    obtain ⟨h0, h1, h2⟩ := hob
    obtain ⟨ha, A, rfl, hcap, hA⟩ := hx
    have hu := elOf_some he
    have hsz' := (H.blk b k hk).sz
    have hbd := sliceBounds_run (P := P) true n ((ρ b).cap - i) (bnd_rep hlo hl) (bnd_rep hhi hm) h0 h1 h2 (by omega) w
    refine ⟨.slice (if (ρ b).cap - i = l.toNat then A else A.map (·.add (l.toNat * k.sz))) (m.toNat - l.toNat) ((ρ b).cap - i - l.toNat), ?_, ⟨ha, (if (ρ b).cap - i = l.toNat then A else A.map (·.add (l.toNat * k.sz))), ?_, ?_, ?_⟩, rfl⟩
    · simp only [Instr.sliceAt, Instr.slice, Sem.run_bind, run_underlying hu, Result.andThen_ok, hbd, szOf_run hsz, Sem.run_pure]
    · rw [Nat.sub_sub]
    · omega
    · intro hlt
      rw [if_neg (by omega), hA (by omega)]
      simp [add_add, hsz', Nat.add_mul, Nat.add_assoc]
  · rename_i sz els
    split at hs
    case h_2 => cases hs
    rename_i l m e hl hm he
    split at hs
    case isFalse => cases hs
    rename_i hsz
    injection hs with hs
    subst hs
    obtain ⟨h0, h1, h2⟩ := hob
    simp only [ARep, SRep, LRep, DRep] at hx
    obtain ⟨A, cap, rfl, hcap, hA⟩ := hx
    have hu := elOf_some he
    have hbd := sliceBounds_run (P := P) true els.length cap (bnd_rep hlo hl) (bnd_rep hhi hm) h0 h1 h2 hcap w
    have hlen : ((els.drop l.toNat).take (m.toNat - l.toNat)).length = m.toNat - l.toNat := by simp; omega
    refine ⟨.slice (if cap = l.toNat then A else A.map (·.add (l.toNat * sz))) (m.toNat - l.toNat) (cap - l.toNat), ?_, ?_, rfl⟩
    · simp only [Instr.sliceAt, Instr.slice, Sem.run_bind, run_underlying hu, Result.andThen_ok, hbd, szOf_run hsz, Sem.run_pure]
    · simp only [ARep, SRep, LRep, DRep]
      refine ⟨_, _, by rw [hlen], by rw [hlen]; omega, fun hne => ?_⟩
      have hpos : 0 < m.toNat - l.toNat := by
        rw [← hlen]; exact List.length_pos_iff.2 hne
      obtain ⟨blk, off, rfl, hat⟩ := hA (by rintro rfl; simp at h2; omega)
      refine ⟨blk, off + l.toNat * sz, ?_, DssAt.of fun i e hi => ?_⟩
      · rw [if_neg (by omega)]
        simp [add_add]
      · rw [List.getElem?_take] at hi
        split at hi
        · rw [List.getElem?_drop] at hi
          have := hat.get _ _ hi
          rw [Nat.add_mul, ← Nat.add_assoc] at this
          exact this
        · cases hi
  · rename_i s
    split at hs
    case h_2 => cases hs
    rename_i l m hl hm
    split at hs
    case isFalse => cases hs
    rename_i hst
    injection hs with hs
    subst hs
    obtain ⟨h0, h1, h2⟩ := hob
    have : u = .string s := hx
    subst this
    have hu := isStr_some hst
    have hbd := sliceBounds_run (P := P) false s.size s.size (bnd_rep hlo hl) (bnd_rep hhi hm) h0 h1 h2 (Nat.le_refl _) w
    refine ⟨_, ?_, rfl, rfl⟩
    simp [Instr.sliceAt, Instr.slice, run_underlying hu, hbd]
  · split at hs
    case h_2 => cases hs
    rename_i l m e hl hm he
    split at hs
    case h_2 => cases hs
    rename_i sz hsz
    injection hs with hs
    subst hs
    obtain ⟨rfl, rfl⟩ := hob
    have : u = .slice none 0 0 := hx
    subst this
    have hu := elOf_some he
    have hbd := sliceBounds_run (P := P) true 0 0 (bnd_rep hlo hl) (bnd_rep hhi hm) (by omega) (by omega) (by simp) (Nat.le_refl _) w
    refine ⟨_, ?_, rfl, rfl⟩
    simp [Instr.sliceAt, Instr.slice, run_underlying hu, hbd, szOf_run hsz]
  · cases hs

/-! ### append -/
def decByte : List LV → Option Int
  | [.v (.int .u8 z)] => some z
  | _ => none
def encByte (z : Int) : List LV := [.v (.int .u8 z)]
theorem decByte_enc (z : Int) : decByte (encByte z) = some z := rfl
theorem decByte_inv (c : List LV) (z : Int) (h : decByte c = some z) : c = encByte z := by
  unfold decByte at h
  split at h
  · injection h with h; subst h; rfl
  · cases h

def decAll {α : Type} (d : List LV → Option α) : List (List LV) → Option (List α)
  | [] => some []
  | e :: r => match d e, decAll d r with
    | some x, some l => some (x :: l)
    | _, _ => none

theorem decAll_enc {α : Type} {d : List LV → Option α} {e : α → List LV} (h : ∀ x, d (e x) = some x) : ∀ l : List α, decAll d (l.map e) = some l
  | [] => rfl
  | x :: l => by simp [decAll, h, decAll_enc h l]

theorem decAll_inv {α : Type} {d : List LV → Option α} {e : α → List LV} (h : ∀ c x, d c = some x → c = e x) : ∀ {els : List (List LV)} {l : List α}, decAll d els = some l → els = l.map e
  | [], l, hd => by injection hd with hd; subst hd; rfl
  | c :: r, l, hd => by
    simp only [decAll] at hd
    split at hd
    case h_2 => cases hd
    rename_i x l' h1 h2
    injection hd with hd
    subst hd
    rw [h c x h1, decAll_inv h h2]
    rfl

def ofBytes (zs : List Int) : ByteArray := ⟨(zs.map fun z => UInt8.ofNat z.toNat).toArray⟩
def toBytes (s : ByteArray) : List Int := s.data.toList.map fun b => (b.toNat : Int)

theorem ofBytes_toBytes (s : ByteArray) : ofBytes (toBytes s) = s := by
  unfold ofBytes toBytes
  apply ByteArray.ext
  simp only [List.map_map]
  have : ((fun z => UInt8.ofNat z.toNat) ∘ fun b : UInt8 => ((b.toNat : Nat) : Int)) = id := by funext b; simp
  rw [this]
  simp

/-- what is appended -/
def srcOf (P : Program) (t2 : TypeId) (y : AV) (h : Heap) (sz : Nat) : Option (Prop × Nat × List (List LV)) :=
  match y with
  | .s (.l (.sl c i m)) => match hget h c with
    | some l => if l.sz = sz ∧ (elOf P t2).isSome then some (i + m ≤ l.els.length, m, (l.els.drop i).take m) else none
    | none => none
  | .s (.l (.d (.sd sz' els))) => if sz' = sz ∧ (elOf P t2).isSome then some (True, els.length, els.map ofDs) else none
  | .s (.l (.v (.string s))) => if isStr P t2 = true ∧ sz = 1 then some (True, s.size, (toBytes s).map encByte) else none
  | .s (.l (.v (.slice none 0 0))) => if (elOf P t2).isSome then some (True, 0, []) else none
  | _ => none

theorem firstCells_zero (size : Nat) (A : Option Addr) (c : Nat) (w : World) : (Builtin.firstCells size 0 (.slice A 0 c)).run P w = .ok #[] w := by
  cases A with
  | none => simp [Builtin.firstCells]
  | some A => exact run_firstCells_some (P := P) w size 0 A 0 c [] (by simp) (by simp)

theorem srcOf_sound (H : WRep B w0 ρ al h w) {t2 : TypeId} {y : AV} {v : Value} (hy : ARep ρ al y v) {sz m : Nat} {ob : Prop} {rows : List (List LV)} (hs : srcOf P t2 y h sz = some (ob, m, rows)) (hob : ob) :
    ∃ news, Src P v t2 sz m news w ∧ rows.length = m ∧ (∀ e ∈ rows, e.length = sz) ∧ news.length = m * sz ∧ (∀ u ∈ news, u.oneCell' = true) ∧ ∀ i j x, cellAt rows i j = some x → ∃ y, news[i * sz + j]? = some y ∧ y.oneCell' = true ∧ LRep ρ al x y := by
  have ty : (elOf P t2).isSome = true → (∃ e, P.underlying t2 = some (.slice e)) := fun h1 => by
    obtain ⟨e, he⟩ := Option.isSome_iff_exists.1 h1
    exact ⟨e, elOf_some he⟩
  unfold srcOf at hs
  split at hs
  · rename_i c i m'
    split at hs
    case h_2 => cases hs
    rename_i l hl
    split at hs
    case isFalse => cases hs
    rename_i hc
    injection hs with hs
    injection hs with e1 e2
    injection e2 with e2 e3
    subst e1
    subst e2
    subst e3
    obtain ⟨rfl, ht⟩ := hc
    obtain ⟨-, C, rfl, hcc, hC⟩ := hy
    have Hc := H.blk c l hl
    have hdl : ((l.els.drop i).take m').length = m' := by simp; omega
    obtain ⟨news, n1, n2, n3, n4⟩ := Hc.row hob
    refine ⟨news, ⟨fun w' => by simp [Builtin.lenOf], .inl (ty ht), fun w' hw' => ?_⟩, hdl, fun e he => Hc.len e (List.mem_of_mem_drop (List.mem_of_mem_take he)), n1, n3, ?_⟩
    · by_cases hm : m' = 0
      · subst hm
        have : news = [] := List.eq_nil_of_length_eq_zero (by simpa using n1)
        subst this
        exact firstCells_zero _ _ _ _
      · rw [hC (by omega)]
        refine run_firstCells_some (P := P) w' l.sz m' _ m' _ news n1 fun j v hv => ?_
        rw [World.cell?_of_block (w := w) (by rw [hw'])]
        exact n2 j v hv
    · intro i' j x hx
      obtain ⟨u, hu, hj⟩ := cellAt_some.1 hx
      rw [List.getElem?_take] at hu
      split at hu
      · rename_i hlt
        rw [List.getElem?_drop] at hu
        exact n4 i' j x hlt (cellAt_some.2 ⟨u, hu, hj⟩)
      · cases hu
  · rename_i sz' els
    split at hs
    case isFalse => cases hs
    rename_i hc
    injection hs with hs
    injection hs with e1 e2
    injection e2 with e2 e3
    subst e1
    subst e2
    subst e3
    obtain ⟨rfl, ht⟩ := hc
    simp only [ARep, SRep, LRep, DRep] at hy
    obtain ⟨A, cap, rfl, hcap, hA⟩ := hy
    by_cases he : els = []
    · subst he
      exact ⟨[], ⟨fun w' => by simp [Builtin.lenOf], .inl (ty ht), fun w' _ => firstCells_zero _ _ _ _⟩, rfl, by simp, by simp, by simp, fun i j x hx => by simp [cellAt] at hx⟩
    · obtain ⟨blk, off, rfl, hat⟩ := hA he
      have hlen : ∀ e ∈ els, e.length = sz' := fun e he => by
        obtain ⟨i, hi⟩ := List.mem_iff_getElem?.1 he
        exact (hat.get i e hi).1
      have key : ∀ q, q < els.length * sz' → ∃ y, al.M blk (off + q) = some y ∧ y.oneCell' = true := by
        intro q hq
        have hsz : 0 < sz' := Nat.pos_of_ne_zero (by rintro rfl; simp at hq)
        have h1 : q / sz' < els.length := (Nat.div_lt_iff_lt_mul hsz).2 hq
        have h2 := hat.get (q / sz') _ (List.getElem?_eq_getElem h1)
        have h3 : q % sz' < els[q / sz'].length := by rw [h2.1]; exact Nat.mod_lt _ hsz
        obtain ⟨y, g1, g2, _⟩ := h2.2.get (q % sz') _ (List.getElem?_eq_getElem h3)
        refine ⟨y, ?_, g2⟩
        rw [← g1]
        congr 1
        have := Nat.div_add_mod q sz'
        rw [Nat.mul_comm] at this
        omega
      refine ⟨(List.range (els.length * sz')).map fun q => (al.M blk (off + q)).getD undef, ⟨fun w' => by simp [Builtin.lenOf], .inl (ty ht), fun w' hw' => ?_⟩, by simp, ?_, by simp, ?_, ?_⟩
      · refine run_firstCells_some (P := P) w' sz' els.length ⟨blk, off, none⟩ els.length cap _ (by simp) fun j v hv => ?_
        have hj : j < els.length * sz' := by have := (List.getElem?_eq_some_iff.1 hv).1; simpa using this
        rw [List.getElem?_map, List.getElem?_range hj, Option.map_some] at hv
        injection hv with hv
        subst hv
        obtain ⟨y, g1, _⟩ := key j hj
        rw [World.cell?_of_block (w := w) (by rw [hw']), Addr.add_mid, g1]
        exact H.mem _ _ _ g1
      · intro e he
        obtain ⟨e', h1, rfl⟩ := List.mem_map.1 he
        simp [ofDs, hlen e' h1]
      · intro u hu
        obtain ⟨q, hq, rfl⟩ := List.mem_map.1 hu
        obtain ⟨y, g1, g2⟩ := key q (List.mem_range.1 hq)
        rw [g1]; exact g2
      · intro i j x hx
        obtain ⟨u, hu, hj⟩ := cellAt_some.1 hx
        rw [List.getElem?_map, Option.map_eq_some_iff] at hu
        obtain ⟨e, he, rfl⟩ := hu
        simp only [ofDs, List.getElem?_map, Option.map_eq_some_iff] at hj
        obtain ⟨z, hz, rfl⟩ := hj
        have h2 := hat.get i e he
        obtain ⟨y, g1, g2, g3⟩ := h2.2.get j z hz
        have hi : i < els.length := (List.getElem?_eq_some_iff.1 he).1
        have hj2 : j < sz' := by rw [← h2.1]; exact (List.getElem?_eq_some_iff.1 hz).1
        refine ⟨y, ?_, g2, ofD_rep.2 g3⟩
        rw [List.getElem?_map, List.getElem?_range (ix_lt hi hj2), Option.map_some, ← Nat.add_assoc, g1]
        rfl
  · rename_i s
    split at hs
    case isFalse => cases hs
    rename_i hc
    injection hs with hs
    injection hs with e1 e2
    injection e2 with e2 e3
    subst e1
    subst e2
    subst e3
    obtain ⟨ht, rfl⟩ := hc
    have : v = .string s := hy
    subst this
    have hsz : (s.extract 0 s.size) = s := by
      apply ByteArray.ext
      show (s.extract 0 s.size).data = s.data
      rw [ByteArray.data_extract]
      have : s.size = s.data.size := rfl
      rw [this, Array.extract_size]
    refine ⟨(toBytes s).map (Value.int .u8), ⟨fun w' => by simp [Builtin.lenOf], .inr (isStr_some ht), fun w' _ => ?_⟩, by simp [toBytes], ?_, by simp [toBytes], ?_, ?_⟩
    · simp only [Builtin.firstCells, hsz, Sem.run_pure]
      congr 1
      apply Array.ext'
      simp [toBytes]
    · intro e he
      obtain ⟨_, _, rfl⟩ := List.mem_map.1 he
      rfl
    · intro u hu
      obtain ⟨_, _, rfl⟩ := List.mem_map.1 hu
      rfl
    · intro i j x hx
      obtain ⟨u, hu, hj⟩ := cellAt_some.1 hx
      rw [List.getElem?_map, Option.map_eq_some_iff] at hu
      obtain ⟨z, hz, rfl⟩ := hu
      cases j with
      | succ j => simp [encByte] at hj
      | zero =>
        simp [encByte] at hj
        subst hj
        exact ⟨.int .u8 z, by rw [Nat.mul_one, Nat.add_zero, List.getElem?_map, hz]; rfl, rfl, rfl⟩
  · split at hs
    case isFalse => cases hs
    rename_i ht
    injection hs with hs
    injection hs with e1 e2
    injection e2 with e2 e3
    subst e1
    subst e2
    subst e3
    have : v = .slice none 0 0 := hy
    subst this
    exact ⟨[], ⟨fun w' => by simp [Builtin.lenOf], .inl (ty ht), fun w' _ => firstCells_zero _ _ _ _⟩, rfl, by simp, by simp, by simp, fun i j x hx => by simp [cellAt] at hx⟩
  · cases hs

def aAppend (P : Program) (t1 t2 : TypeId) (x y : AV) (h : Heap) (id : Nat) : Option Res :=
  match elOf P t1 with
  | some T => match zeroOf P T, bytesOf' P T, szOf P T with
    | some _, some by', some sz => match srcOf P t2 y h sz with
      | some (ob, m, rows) => match x with
        | .s (.l (.sl b 0 n)) => match hget h b with
          | some k => if k.own = true ∧ k.sz = sz ∧ k.T = T then some ⟨ob ∧ n ≤ k.els.length ∧ n + m ≤ maxLen ∧ (n + m) * by' ≤ 140737488355328, .s (.l (.sl id 0 (n + m))), [(id, some ⟨true, T, sz, k.els.take n ++ rows⟩), (b, none)]⟩ else none
          | none => none
        | .s (.l (.v (.slice none 0 0))) => some ⟨ob ∧ m ≤ maxLen ∧ m * by' ≤ 140737488355328, .s (.l (.sl id 0 m)), [(id, some ⟨true, T, sz, rows⟩)]⟩
        | _ => none
      | none => none
    | _, _, _ => none
  | none => none

theorem WRep.virtual (H : WRep B w0 ρ al h w) {id : Nat} (hid : ¬ al id) (T : TypeId) (sz : Nat) :
    ∃ ρ', Ext ρ ρ' al (al1 al id) ∧ ρ' id = ⟨0, 0, sz, 0, true⟩ ∧ WRep B w0 ρ' (al1 al id) ((id, some ⟨true, T, sz, []⟩) :: h) w := by
  have E : Ext ρ (ρ1 ρ id ⟨0, 0, sz, 0, true⟩) al (al1 al id) := Ext.new hid _
  have e := ρ1_id ρ id ⟨0, 0, sz, 0, true⟩
  generalize ρ1 ρ id ⟨0, 0, sz, 0, true⟩ = ρ' at *
  refine ⟨ρ', E, e, (H.step E H.below (fun _ _ _ _ => rfl) (fun _ _ => rfl)).more ⟨.inr rfl, by rw [e], by rw [e], by simp, by simp, fun i j x hx => by simp [cellAt] at hx, fun _ => by rw [e]; exact ⟨rfl, Nat.zero_le _, fun h0 => absurd rfl h0⟩⟩ rfl (fun h0 => by rw [e] at h0; exact absurd rfl h0) (fun h0 => by rw [e] at h0; exact absurd rfl h0) ?_⟩
  intro c l _ _ _ _ h0
  rw [e] at h0
  exact absurd rfl h0

theorem aAppend_sound (H : WRep B w0 ρ al h w) {t1 t2 ty : TypeId} {x y : AV} {u v : Value} (hx : ARep ρ al x u) (hy : ARep ρ al y v) {id : Nat} (hid : ∀ b, id ≤ b → b < id + 16 → ¬ al b) {R : Res} (hs : aAppend P t1 t2 x y h id = some R) (hob : R.ob) :
    ∃ z w' ρ', (Builtin.append_ #[t1, t2] ty #[u, v]).run P w = .ok z w' ∧ Ext ρ ρ' al (alW al id) ∧ ARep ρ' (alW al id) R.r z ∧ WRep B w0 ρ' (alW al id) (R.E ++ h) w' := by
  unfold aAppend at hs
  split at hs
  case h_2 => cases hs
  rename_i T hT
  split at hs
  case h_2 => cases hs
  rename_i zs by' sz hzs hby hsz
  split at hs
  case h_2 => cases hs
  rename_i ob m rows hsrc
  obtain ⟨inf, z, hi, hz, hzl, hzsz, hone⟩ := zeroOf_some hzs
  have his : inf.size = sz := by have := szOf_info hsz; rw [hi] at this; simpa using this
  have hib : inf.bytes = by' := by unfold bytesOf' at hby; rw [hi] at hby; simpa using hby
  have hu := elOf_some hT
  split at hs
  · rename_i b n
    split at hs
    case h_2 => cases hs
    rename_i k hk
    split at hs
    case isFalse => cases hs
    rename_i hc
    obtain ⟨ho, hksz, hkT⟩ := hc
    injection hs with hs
    subst hs
    subst hkT
    subst hksz
    obtain ⟨h0, h1, h4, h5⟩ := hob
    obtain ⟨news, q1, q2, q3, q4, q5, q6⟩ := srcOf_sound H hy hsrc h0
    obtain ⟨v', w', ρ', g1, g2, g3, g4⟩ := H.append (hid id (Nat.le_refl _) (by omega)) hk ho hx h1 q2 q3 q1 q4 q5 q6 hu hi hz his hib (by rw [hzsz, his]) h4 h5 (ty := ty)
    exact ⟨v', w', ρ', g1, g2.lift (al1_alW (Nat.le_refl _) (by omega)), LRep.lift g3 (al1_alW (Nat.le_refl _) (by omega)), g4.lift (al1_alW (Nat.le_refl _) (by omega))⟩
  · injection hs with hs
    subst hs
    have : u = .slice none 0 0 := hx
    subst this
    obtain ⟨h0, h4, h5⟩ := hob
    obtain ⟨ρv, Ev, ev, Hv⟩ := H.virtual (hid (id + 1) (by omega) (by omega)) T sz
    obtain ⟨news, q1, q2, q3, q4, q5, q6⟩ := srcOf_sound H hy hsrc h0
    have hid2 : ¬ al1 al (id + 1) id := by
      rintro (h | h)
      · exact hid id (Nat.le_refl _) (by omega) h
      · omega
    obtain ⟨v', w', ρ', g1, g2, g3, g4⟩ := Hv.append (v := .slice none 0 0) (b := id + 1) (n := 0) hid2 (by rw [hget, if_pos rfl]) rfl ⟨.inr rfl, none, (by rw [ev]; rfl), by simp, fun h0 => by rw [ev] at h0; simp at h0⟩ (Nat.zero_le _) q2 q3 q1 q4 q5 (fun i j x hx => by
      obtain ⟨y, p1, p2, p3⟩ := q6 i j x hx
      exact ⟨y, p1, p2, p3.ext Ev⟩) hu hi hz his hib (by rw [hzsz, his]) (by omega) (by simpa using h5) (ty := ty)
    simp only [List.take_zero, List.nil_append, Nat.zero_add] at g3 g4
    have hup : ∀ b, al1 (al1 al (id + 1)) id b → alW al id b := by
      rintro b ((hb | hb) | hb)
      · exact .inl hb
      · exact .inr (by omega)
      · exact .inr (by omega)
    refine ⟨v', w', ρ', g1, (Ev.trans g2).lift hup, LRep.lift g3 hup, (g4.sub fun b k hb => ?_).lift hup⟩
    simp only [List.singleton_append, List.cons_append, List.nil_append, hget] at hb ⊢
    split
    · rename_i e; rw [if_pos e] at hb; exact hb
    · rename_i e
      rw [if_neg e] at hb
      have hbal := (H.blk b k hb).here
      have hne : ¬ id + 1 = b := fun e => hid (id + 1) (by omega) (by omega) (e ▸ hbal)
      rw [if_neg hne, if_neg hne]
      exact hb
  · cases hs

/-! ### bytes and strings -/
def isBytes (P : Program) (t : TypeId) : Bool :=
  match elOf P t with
  | some e => kindOf' P e == some .u8 && szOf P e == some 1
  | none => false

def aConvS (P : Program) (src dst : TypeId) (x : AV) (h : Heap) (id : Nat) : Option Res :=
  match x with
  | .s (.l (.sl b i n)) => if isBytes P src = true then match hget h b with
      | some k => if isStr P dst = true then (if k.sz = 1 then match decAll decByte ((k.els.drop i).take n) with
          | some zs => some ⟨i + n ≤ k.els.length, .s (.l (.v (.string (ofBytes zs)))), []⟩
          | none => none
          else none)
        else if src = dst ∧ k.own = true then some ⟨0 < n, .s (.l (.sl b i n)), []⟩ else none
      | none => none
      else none
  | .s (.l (.d (.sd sz els))) => if isBytes P src = true ∧ isStr P dst = true ∧ sz = 1 then match decAll decByte (els.map ofDs) with
      | some zs => some ⟨True, .s (.l (.v (.string (ofBytes zs)))), []⟩
      | none => none
      else none
  | .s (.l (.v (.slice none 0 0))) => if isBytes P src = true ∧ isStr P dst = true then some ⟨True, .s (.l (.v (.string (ofBytes [])))), []⟩ else none
  | .s (.l (.v (.string s))) => match elOf P dst with
    | some e => if isBytes P dst = true ∧ isStr P src = true then some ⟨s.size ≤ maxLen, .s (.l (.sl id 0 s.size)), [(id, some ⟨true, e, 1, (toBytes s).map encByte⟩)]⟩ else none
    | none => none
  | _ => none

theorem bytes_zero (A : Option Addr) (c : Nat) (w : World) : (Conv.bytesToString (.slice A 0 c)).run P w = .ok (.string (ofBytes [])) w := by
  cases A with
  | none => rfl
  | some A => rw [run_bytesToString w A 0 c [] (run_loadCells_list (P := P) w A [] (by simp))]; rfl

theorem isBytes_some {t : TypeId} (hb : isBytes P t = true) : ∃ e, P.underlying t = some (.slice e) ∧ elOf P t = some e ∧ P.underlying e = some (.int .u8) ∧ szOf P e = some 1 := by
  unfold isBytes at hb
  split at hb
  case h_2 => cases hb
  rename_i e he
  simp only [Bool.and_eq_true, beq_iff_eq] at hb
  refine ⟨e, elOf_some he, he, ?_, hb.2⟩
  have := hb.1
  unfold kindOf' at this
  split at this
  · rename_i k hk; injection this with this; rw [hk, this]
  · cases this

theorem freeze_other (w : World) (a : Addr) (n k : Nat) (h : k ≠ a.block) : (w.freeze a n).heap[k]? = w.heap[k]? := by
  unfold World.freeze
  split
  · rfl
  · rw [Array.getElem?_modify, if_neg (fun e => h e.symm)]

theorem freeze_same (w : World) (b o : Nat) (cur : Array Value) (T : TypeId) (fr : Nat × Nat) (h : w.heap[b]? = some (.cells cur T fr)) : (w.freeze ⟨b, o, none⟩ 1).heap[b]? = some (.cells cur T (if fr.1 == fr.2 then (o, o + 1) else (min fr.1 o, max fr.2 (o + 1)))) := by
  unfold World.freeze
  rw [if_neg (by decide)]
  rw [Array.getElem?_modify, if_pos rfl, h]
  rfl

theorem freeze_keeps {S : Nat → Prop} {a' : World} (H : Keeps S a' w) (b o : Nat) (hB : ¬ S b) : Keeps S a' (w.freeze ⟨b, o, none⟩ 1) := by
  have hsame : ∀ (k : Nat) (o' : Obj), w.heap[k]? = some o' → isDef o' = true → (w.freeze ⟨b, o, none⟩ 1).heap[k]? = some o' := by
    intro k o' hk ho
    by_cases e : k = b
    · subst e
      unfold World.freeze
      rw [if_neg (by decide), Array.getElem?_modify, if_pos rfl, hk]
      cases o' <;> first | rfl | (simp [isDef] at ho)
    · rw [freeze_other _ _ _ _ (by show k ≠ b; exact e)]; exact hk
  refine H.trans ⟨?_, ?_, ?_, ?_, fun k hk => freeze_other _ _ _ _ (by show k ≠ b; exact fun e => hB (e ▸ hk)), hsame⟩ <;> (unfold World.freeze; rw [if_neg (by decide)]) <;> simp

theorem WRep.mark (H : WRep B w0 ρ al h w) {b : Nat} {k : Blk} (hk : hget h b = some k) (ho : k.own = true) (hc : (ρ b).cap ≠ 0) {cur : Array Value} {T : TypeId} {fr : Nat × Nat} (hcur : w.heap[(ρ b).blk]? = some (.cells cur T fr)) :
    WRep B w0 ρ al h (w.freeze ⟨(ρ b).blk, cur.size, none⟩ 1) := by
  have Hb := H.blk b k hk
  have hB := H.own b k hk ho hc
  have H0 : WRep B w0 ρ al ((b, none) :: h) w := H.sub fun c l hl => (hget_hide c l hl).2
  have H1 : WRep B w0 ρ al ((b, none) :: h) (w.freeze ⟨(ρ b).blk, cur.size, none⟩ 1) :=
    H0.step (.refl _ _) (freeze_keeps H.below _ _ hB) (fun d q hd hc' => freeze_other _ _ _ _ (H.other hk ho hc (hget_hide d q hd).2 hc' (hget_hide d q hd).1)) (fun c hc' => freeze_other _ _ _ _ (H.memOther hk ho hc hc'))
  have hnew := freeze_same w (ρ b).blk cur.size cur T fr hcur
  refine (H1.more (b := b) (k := k) ⟨Hb.here, Hb.own, Hb.sz, Hb.len, Hb.cap, ?_, ?_⟩ ho (fun _ => hB) (H.memOwn b k hk ho) ?_).sub fun c l hl => ?_
  · intro i j x hx
    obtain ⟨y, h1, h2, h3⟩ := Hb.cells i j x hx
    refine ⟨y, ?_, h2, h3⟩
    rw [cell_of_row _ _ _ _ _ _ hnew, ← h1, cell_of_row _ _ _ _ _ _ hcur]
  · intro _
    obtain ⟨cur', fr', g1, g2, g3⟩ := (Hb.room ho).2.2 hc
    rw [hcur] at g1
    injection g1 with g1
    injection g1 with e1 e2 e3
    subst e1
    subst e2
    subst e3
    refine ⟨(Hb.room ho).1, (Hb.room ho).2.1, fun _ => ⟨cur, _, hnew, g2, ?_⟩⟩
    obtain ⟨lo, hi⟩ := fr
    by_cases e : lo = hi
    · subst e; simp
    · have : (lo == hi) = false := by simpa using e
      simp only [this]
      rcases g3 with g3 | g3
      · exact absurd g3 e
      · right
        simp only at g3
        show cur.size ≤ min lo cur.size
        omega
  · intro c l hl ol cl hne _
    exact H.other hk ho hc (hget_hide c l hl).2 (.inr ⟨ol, cl⟩) hne
  · by_cases e : b = c
    · subst e
      rw [hk] at hl
      rw [hget, if_pos rfl, ← hl]
    · rw [hget, if_neg e, hget, if_neg e]; exact hl

theorem aConvS_sound (H : WRep B w0 ρ al h w) {src dst : TypeId} {x : AV} {u : Value} (hx : ARep ρ al x u) {id : Nat} (hid : ¬ al id) {R : Res} (hs : aConvS P src dst x h id = some R) (hob : R.ob) :
    ∃ v w' ρ', (convert src dst u).run P w = .ok v w' ∧ Ext ρ ρ' al (al1 al id) ∧ ARep ρ' (al1 al id) R.r v ∧ WRep B w0 ρ' (al1 al id) (R.E ++ h) w' := by
  unfold aConvS at hs
  split at hs
  · rename_i b i n
    split at hs
    case isFalse => cases hs
    rename_i hby
    obtain ⟨e, he, _, hu8, _⟩ := isBytes_some hby
    split at hs
    case h_2 => cases hs
    rename_i k hk
    have Hb := H.blk b k hk
    obtain ⟨ha, A, rfl, hcap, hA⟩ := hx
    split at hs
    · rename_i hst
      split at hs
      case isFalse => cases hs
      rename_i hsz
      split at hs
      case h_2 => cases hs
      rename_i zs hz
      injection hs with hs
      subst hs
      have h1 : i + n ≤ k.els.length := hob
      by_cases h2 : n = 0
      · subst h2
        obtain rfl : zs = [] := by simpa [decAll] using hz.symm
        refine ⟨.string (ofBytes []), w, ρ, ?_, ⟨fun _ _ => rfl, Mem.le_refl _, fun _ hb => .inl hb⟩, rfl, H.lift fun _ hb => .inl hb⟩
        rw [run_convert_bytes_string w src dst e _ _ _ he hu8 (isStr_some hst), bytes_zero]
      rw [hA (by omega)]
      obtain ⟨news, n1, n2, n3, n4⟩ := Hb.row h1
      have hels := decAll_inv decByte_inv hz
      have hlen : zs.length = n := by
        have := congrArg List.length hels
        simp at this
        omega
      have hnews : news = zs.map (Value.int .u8) := by
        refine List.ext_getElem? fun j => ?_
        by_cases hj : j < n
        · have hcell : cellAt k.els (i + j) 0 = some (.v (.int .u8 (zs[j]'(by omega)))) := by
            refine cellAt_some.2 ⟨encByte (zs[j]'(by omega)), ?_, rfl⟩
            have := congrArg (fun l => l[j]?) hels
            simp only [List.getElem?_take, if_pos hj, List.getElem?_drop, List.getElem?_map] at this
            rw [this, List.getElem?_eq_getElem (by omega)]
            rfl
          obtain ⟨y, g1, _, g3⟩ := n4 j 0 _ hj hcell
          have : y = .int .u8 (zs[j]'(by omega)) := g3
          rw [hsz] at g1
          rw [show j = j * 1 + 0 by omega, g1, this, List.getElem?_map, List.getElem?_eq_getElem (by omega)]
          simp
        · rw [List.getElem?_eq_none (by rw [n1, hsz]; omega), List.getElem?_eq_none (by simp; omega)]
      have hl : (loadCells ⟨(ρ b).blk, (ρ b).off + i * (ρ b).sz, none⟩ n).run P w = .ok (zs.map (Value.int .u8)).toArray w := by
        rw [← hnews, show n = news.length by rw [n1, hsz]; omega]
        exact run_loadCells_list (P := P) w _ news n2
      refine ⟨.string (ofBytes zs), w, ρ, ?_, ⟨fun _ _ => rfl, Mem.le_refl _, fun _ hb => .inl hb⟩, rfl, H.lift fun _ hb => .inl hb⟩
      rw [run_convert_bytes_string w src dst e _ _ _ he hu8 (isStr_some hst), run_bytesToString w _ _ _ zs hl]
      congr 2
      have hf : ∀ (l : List Int) (r : ByteArray), l.foldl (fun r n => r.push (UInt8.ofNat n.toNat)) r = ⟨r.data ++ (l.map fun z => UInt8.ofNat z.toNat).toArray⟩ := by
        intro l
        induction l with
        | nil => intro r; apply ByteArray.ext; simp
        | cons z l ih =>
          intro r
          rw [List.foldl_cons, ih]
          apply ByteArray.ext
          simp [ByteArray.push]
      rw [hf]
      apply ByteArray.ext
      simp [ofBytes]
    · split at hs
      case isFalse => cases hs
      rename_i hc
      obtain ⟨rfl, ho⟩ := hc
      injection hs with hs
      subst hs
      rename_i hst
      have hc0 : (ρ b).cap ≠ 0 := by simp only at hob; omega
      have hA' := hA (by simp only at hob; omega)
      obtain ⟨cur, fr, hcur, hcs, _⟩ := (Hb.room ho).2.2 hc0
      refine ⟨_, _, ρ, ?_, ⟨fun _ _ => rfl, Mem.le_refl _, fun _ hb => .inl hb⟩, ⟨.inl ha, A, rfl, hcap, hA⟩, (H.mark hk ho hc0 hcur).lift fun _ hb => .inl hb⟩
      have hsh : w.shape? (ρ b).blk = some (k.T, cur.size) := by simp [World.shape?, hcur]
      rw [hA']
      simp [convert, run_underlying he, run_underlying hu8, markStringish, hsh]
  · rename_i sz els
    split at hs
    case isFalse => cases hs
    rename_i hc
    obtain ⟨hby, hst, rfl⟩ := hc
    obtain ⟨e, he, _, hu8, _⟩ := isBytes_some hby
    split at hs
    case h_2 => cases hs
    rename_i zs hz
    injection hs with hs
    subst hs
    simp only [ARep, SRep, LRep, DRep] at hx
    obtain ⟨A, cap, rfl, hcap, hA⟩ := hx
    by_cases h2 : els = []
    · subst h2
      obtain rfl : zs = [] := by simpa [decAll] using hz.symm
      refine ⟨.string (ofBytes []), w, ρ, ?_, ⟨fun _ _ => rfl, Mem.le_refl _, fun _ hb => .inl hb⟩, rfl, H.lift fun _ hb => .inl hb⟩
      rw [run_convert_bytes_string w src dst e _ _ _ he hu8 (isStr_some hst), List.length_nil, bytes_zero]
    obtain ⟨blk, off, rfl, hat⟩ := hA h2
    have hels := decAll_inv decByte_inv hz
    have hlen : zs.length = els.length := by have := congrArg List.length hels; simpa using this.symm
    have hl : (loadCells ⟨blk, off, none⟩ els.length).run P w = .ok (zs.map (Value.int .u8)).toArray w := by
      rw [show els.length = (zs.map (Value.int .u8)).length by simp [hlen]]
      refine run_loadCells_list (P := P) w _ _ fun j v hv => ?_
      rw [List.getElem?_map, Option.map_eq_some_iff] at hv
      obtain ⟨z, hz1, rfl⟩ := hv
      have h1 := congrArg (fun l => l[j]?) hels
      simp only [List.getElem?_map, hz1, Option.map_some] at h1
      rw [Option.map_eq_some_iff] at h1
      obtain ⟨q, hq, h2⟩ := h1
      have h3 := hat.get j q hq
      cases q with
      | nil => simp [ofDs, encByte] at h2
      | cons d r =>
        simp only [ofDs, encByte, List.map_cons, List.cons.injEq] at h2
        obtain ⟨y, g1, _, g3⟩ := h3.2.get 0 d rfl
        have g4 : LRep ρ al (ofD d) y := ofD_rep.2 g3
        rw [h2.1] at g4
        have g5 : y = .int .u8 z := g4
        subst g5
        rw [Addr.add_mid]
        have := H.mem _ _ _ g1
        rwa [Nat.mul_one, Nat.add_zero] at this
    refine ⟨.string (ofBytes zs), w, ρ, ?_, ⟨fun _ _ => rfl, Mem.le_refl _, fun _ hb => .inl hb⟩, rfl, H.lift fun _ hb => .inl hb⟩
    rw [run_convert_bytes_string w src dst e _ _ _ he hu8 (isStr_some hst), run_bytesToString w _ _ _ zs hl]
    congr 2
    have hf : ∀ (l : List Int) (r : ByteArray), l.foldl (fun r n => r.push (UInt8.ofNat n.toNat)) r = ⟨r.data ++ (l.map fun z => UInt8.ofNat z.toNat).toArray⟩ := by
      intro l
      induction l with
      | nil => intro r; apply ByteArray.ext; simp
      | cons z l ih =>
        intro r
        rw [List.foldl_cons, ih]
        apply ByteArray.ext
        simp [ByteArray.push]
    rw [hf]
    apply ByteArray.ext
    simp [ofBytes]
  · split at hs
    case isFalse => cases hs
    rename_i hc
    obtain ⟨hby, hst⟩ := hc
    obtain ⟨e, he, _, hu8, _⟩ := isBytes_some hby
    injection hs with hs
    subst hs
    have : u = .slice none 0 0 := hx
    subst this
    refine ⟨.string (ofBytes []), w, ρ, ?_, ⟨fun _ _ => rfl, Mem.le_refl _, fun _ hb => .inl hb⟩, rfl, H.lift fun _ hb => .inl hb⟩
    rw [run_convert_bytes_string w src dst e _ _ _ he hu8 (isStr_some hst), bytes_zero]
  · rename_i s
    split at hs
    case h_2 => cases hs
    rename_i e he
    split at hs
    case isFalse => cases hs
    rename_i hc
    obtain ⟨hby, hst⟩ := hc
    injection hs with hs
    subst hs
    obtain ⟨e', he', hel, hu8, _⟩ := isBytes_some hby
    rw [he] at hel
    injection hel with hel
    subst hel
    have : u = .string s := hx
    subst this
    have hrun := run_bytes_of_string (P := P) w src dst e s (isStr_some hst) he' hu8
    have hge := grownCap_ge w s.size 0 e
    have hle := grownCap_le_maxLen w s.size 0 e hob
    have hsz : (bytesRow s (grownCap w s.size 0 e)).size = grownCap w s.size 0 e * 1 := by simp [bytesRow]; have : s.data.size = s.size := rfl; omega
    obtain ⟨ρ', E, e2, H'⟩ := H.drew.allocF hid e 1 (grownCap w s.size 0 e) ((toBytes s).map encByte) (bytesRow s (grownCap w s.size 0 e)) ((bytesRow s (grownCap w s.size 0 e)).size, (bytesRow s (grownCap w s.size 0 e)).size + 1) (.inr (Nat.le_refl _)) hsz hle (by simp [toBytes]; exact hge) ⟨by
        intro c hc
        obtain ⟨_, _, rfl⟩ := List.mem_map.1 hc
        rfl, fun i j x hx => by
        obtain ⟨c, h1, h2⟩ := cellAt_some.1 hx
        simp only [toBytes, List.map_map, List.getElem?_map] at h1
        cases hb : s.data.toList[i]? with
        | none => rw [hb] at h1; cases h1
        | some q =>
          rw [hb] at h1
          injection h1 with h1
          subst h1
          cases j with
          | succ j => simp [encByte] at h2
          | zero =>
            simp [encByte] at h2
            subst h2
            refine ⟨.int .u8 q.toNat, ?_, rfl, rfl⟩
            rw [Nat.mul_one, Nat.add_zero]
            simp only [bytesRow, Array.toList_append, Array.toList_map]
            rw [List.getElem?_append_left (by have := (List.getElem?_eq_some_iff.1 hb).1; simpa using this), List.getElem?_map, hb]
            rfl⟩
    refine ⟨_, _, ρ', hrun, E, ⟨.inr rfl, some ⟨w.heap.size, 0, none⟩, (by rw [e2]; rfl), (by rw [e2]; show 0 + s.size ≤ grownCap w s.size 0 e; omega), (fun _ => by rw [e2]; simp)⟩, H'⟩
  · cases hs

end


/-! ### make -/
section
variable {P : Program} {B : Base} {w0 : World} {ρ : Nat → Loc} {al : Al} {h : Heap} {w : World}

def aMake (P : Program) (t : TypeId) (x y : AV) (id : Nat) : Option Res :=
  match elOf P t with
  | some e => match zeroOf P e, bytesOf' P e with
    | some zs, some by_ => match x, y with
      | .s (.l (.v (.int _ l))), .s (.l (.v (.int _ c))) => some ⟨0 ≤ l ∧ l ≤ c ∧ by_ * c ≤ 281474976710656 ∧ c ≤ maxLen, .s (.l (.sl id 0 l.toNat)), [(id, some ⟨true, e, zs.length, List.replicate l.toNat (zs.map .v)⟩)]⟩
      | _, _ => none
    | _, _ => none
  | none => none

theorem aMake_sound (H : WRep B w0 ρ al h w) {t : TypeId} {x y : AV} {u v : Value} (hx : ARep ρ al x u) (hy : ARep ρ al y v) {id : Nat} (hid : ¬ al id) {R : Res} (hs : aMake P t x y id = some R) (hob : R.ob) :
    ∃ z w' ρ', (Instr.makeSlice t u v).run P w = .ok z w' ∧ Ext ρ ρ' al (al1 al id) ∧ ARep ρ' (al1 al id) R.r z ∧ WRep B w0 ρ' (al1 al id) (R.E ++ h) w' := by
  unfold aMake at hs
  split at hs
  case h_2 => cases hs
  rename_i e he
  split at hs
  case h_2 => cases hs
  rename_i zs by_ hzs hby
  split at hs
  case h_2 => cases hs
  rename_i k l k' c
  injection hs with hs
  subst hs
  obtain ⟨h0, hlc, hbytes, hmax⟩ := hob
  obtain ⟨i, z, hi, hz, hzl, hzs', hone⟩ := zeroOf_some hzs
  have hu : P.underlying t = some (.slice e) := by
    unfold elOf at he
    split at he
    · rename_i e2 hu; injection he with he; rw [hu, he]
    · cases he
  have hib : i.bytes = by_ := by unfold bytesOf' at hby; rw [hi] at hby; simpa using hby
  have hux : u = .int k l := hx
  have hvy : v = .int k' c := hy
  subst hux
  subst hvy
  have hzlen : zs.length = i.size := by rw [← hzl, ← hzs']; simp
  have hml : maxLen ≤ 9223372036854775807 := by unfold maxLen; decide
  have hrun := run_make (P := P) w t e i z hu hi hz k k' l c h0 hlc (by rw [hib]; exact hbytes) (by omega)
  have hcell : ∀ (a j : Nat) (x : LV), cellAt (List.replicate l.toNat (zs.map LV.v)) a j = some x → a < l.toNat ∧ ∃ y, zs[j]? = some y ∧ x = .v y := by
    intro a j x hx
    unfold cellAt at hx
    rw [List.getElem?_replicate] at hx
    split at hx
    · rename_i ha
      simp only [Option.bind_some, List.getElem?_map, Option.map_eq_some_iff] at hx
      obtain ⟨y, h1, h2⟩ := hx
      exact ⟨ha, y, h1, h2.symm⟩
    · cases hx
  obtain ⟨ρ', E, e', H'⟩ := H.alloc hid e zs.length c.toNat (List.replicate l.toNat (zs.map .v)) (madeCells z.cells (c.toNat * i.size)) (by rw [size_madeCells, hzlen]) (by omega) (by rw [List.length_replicate]; omega) ⟨fun e he => by rw [(List.mem_replicate.1 he).2]; simp, fun a j x hx => by
    obtain ⟨ha, y, h1, rfl⟩ := hcell a j x hx
    have hj : j < zs.length := (List.getElem?_eq_some_iff.1 h1).1
    refine ⟨y, ?_, hone y (List.mem_of_getElem? h1), rfl⟩
    have hlt : a * zs.length + j < c.toNat * i.size := by
      rw [← hzlen]
      have h2 : (a + 1) * zs.length ≤ c.toNat * zs.length := Nat.mul_le_mul_right _ (by omega)
      rw [Nat.succ_mul] at h2
      omega
    have hmod : (a * zs.length + j) % z.cells.size = j := by
      rw [hzs', ← hzlen, Nat.mul_comm, Nat.mul_add_mod, Nat.mod_eq_of_lt hj]
    have hgz : z.cells[j]? = some y := by rw [← Array.getElem?_toList, hzl]; exact h1
    simp only [madeCells, Array.toList_map, Array.toList_range, List.getElem?_map, List.getElem?_range hlt, Option.map_some, hmod]
    rw [getElem!_def, hgz]⟩
  refine ⟨_, _, ρ', hrun, E, ⟨.inr rfl, some ⟨w.heap.size, 0, none⟩, (by rw [e']; rfl), (by rw [e']; show 0 + l.toNat ≤ c.toNat; omega), (fun _ => by rw [e']; simp)⟩, H'⟩

end

end Go.Proofs.YtcdbldakjepjiaaDoor
