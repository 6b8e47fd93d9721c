/- The value logic with lasting memory, part 4: struct literals, slice literals, slices of slices, append, operations on plain values. No program in sight. -/
import Derived.Test.YtcdbldakjepjiaaDoorU3
set_option linter.unusedVariables false
set_option linter.unusedSimpArgs false
namespace Go.Proofs.YtcdbldakjepjiaaDoor
open Go.RowKit

section
variable {P : Program} {B : Base} {w0 : World} {ρ : Nat → Loc} {al : Al} {h : Heap} {w : World}

/-! ### literals -/
/-- the parts of a literal, each at its place, over what was there -/
def fillL (place : Nat → Option (Nat × Nat)) : List LV → List (Nat × AV) → Option (List LV)
  | acc, [] => some acc
  | acc, (i, x) :: r => match place i, cellsOf x with
    | some (o, s), some xs => if xs.length = s ∧ o + s ≤ acc.length then fillL place (splice acc o xs) r else none
    | _, _ => none

theorem LsRep.mk : ∀ {xs : List LV} {ys : List Value}, ys.length = xs.length → (∀ (j : Nat) (x : LV), xs[j]? = some x → ∃ y, ys[j]? = some y ∧ y.oneCell' = true ∧ LRep ρ al x y) → LsRep ρ al xs ys
  | [], [], _, _ => trivial
  | x :: xs, y :: ys, hl, hk => by
    obtain ⟨y', h1, h2, h3⟩ := hk 0 x rfl
    simp at h1
    subst h1
    exact ⟨h2, h3, LsRep.mk (by simpa using hl) fun j z hz => by simpa using hk (j + 1) z (by simpa using hz)⟩

theorem foldl_set : ∀ (vs : List Value) (cs : Array Value) (o k : Nat),
    ((vs.zipIdx k).foldl (fun (cs : Array Value) (x : Value × Nat) => cs.setIfInBounds (o + x.2) x.1) cs).size = cs.size ∧
    ∀ m : Nat, ((vs.zipIdx k).foldl (fun (cs : Array Value) (x : Value × Nat) => cs.setIfInBounds (o + x.2) x.1) cs)[m]? = if o + k ≤ m ∧ m < o + k + vs.length ∧ m < cs.size then vs[m - (o + k)]? else cs[m]?
  | [], cs, o, k => ⟨rfl, fun m => by rw [if_neg (by simp; omega)]; rfl⟩
  | v :: vs, cs, o, k => by
    obtain ⟨h1, h2⟩ := foldl_set vs (cs.setIfInBounds (o + k) v) o (k + 1)
    rw [List.zipIdx_cons, List.foldl_cons]
    refine ⟨h1.trans (by simp), fun m => ?_⟩
    rw [h2 m]
    simp only [Array.size_setIfInBounds, List.length_cons]
    by_cases ha : o + (k + 1) ≤ m ∧ m < o + (k + 1) + vs.length ∧ m < cs.size
    · rw [if_pos ha, if_pos (by omega), show m - (o + k) = m - (o + (k + 1)) + 1 by omega, List.getElem?_cons_succ]
    · rw [if_neg ha, Array.getElem?_setIfInBounds]
      by_cases hb : o + k = m
      · subst hb
        rw [if_pos rfl]
        by_cases hc : o + k < cs.size
        · rw [if_pos hc, if_pos (by omega)]; simp
        · rw [if_neg hc, if_neg (by omega), Array.getElem?_eq_none (by omega)]
      · rw [if_neg hb, if_neg (by omega)]

theorem fillL_sound {place : Nat → Option (Nat × Nat)} {evr : Operand → Value} {ev : Operand → AV} (hT : ∀ x, ARep ρ al (ev x) (evr x)) :
    ∀ (ps : List (Nat × Operand)) (acc : List LV) (cells : Array Value) (out : List LV), LsRep ρ al acc cells.toList → fillL place acc (ps.map fun (i, x) => (i, ev x)) = some out →
      ∃ cells', Instr.fill place cells (ps.map fun (i, x) => (i, evr x)) = some cells' ∧ LsRep ρ al out cells'.toList ∧ cells'.size = cells.size
  | [], acc, cells, out, hr, hs => by
    simp only [List.map_nil, fillL, Option.some.injEq] at hs
    subst hs
    exact ⟨cells, rfl, hr, rfl⟩
  | (i, x) :: ps, acc, cells, out, hr, hs => by
    simp only [List.map_cons, fillL] at hs
    split at hs
    case h_2 => cases hs
    rename_i o s xs hp hx
    split at hs
    case isFalse => cases hs
    rename_i hc
    have hv := cellsOf_rep (hT x) hx
    have hvl := hv.length
    have hal := hr.length
    have hvs : (evr x).cells.size = s := by rw [← hc.1, ← hvl]; simp
    have has : cells.size = acc.length := by rw [← hal]; simp
    obtain ⟨f1, f2⟩ := foldl_set (evr x).cells.toList cells o 0
    generalize hcs : (((evr x).cells.toList.zipIdx 0).foldl (fun (cs : Array Value) (x : Value × Nat) => cs.setIfInBounds (o + x.2) x.1) cells) = cells2 at f1 f2
    have hr2 : LsRep ρ al (splice acc o xs) cells2.toList := by
      refine LsRep.mk (by rw [splice_length (by omega)]; simp [f1, has]) fun j z hz => ?_
      rw [splice_get (by omega)] at hz
      rw [Array.getElem?_toList, f2 j]
      by_cases h1 : j < o
      · rw [if_pos h1] at hz
        rw [if_neg (by omega)]
        simpa using hr.get j z hz
      · rw [if_neg h1] at hz
        by_cases h2 : j < o + xs.length
        · rw [if_pos h2] at hz
          rw [if_pos ⟨by omega, by omega, by omega⟩]
          simpa using hv.get (j - o) z hz
        · rw [if_neg h2] at hz
          rw [if_neg (by omega)]
          simpa using hr.get j z hz
    obtain ⟨cells', g1, g2, g3⟩ := fillL_sound hT ps (splice acc o xs) cells2 out hr2 hs
    refine ⟨cells', ?_, g2, g3.trans f1⟩
    rw [List.map_cons, Instr.fill, hp]
    simp only
    have e2 : (evr x).cells.zipIdx.foldl (fun (cs : Array Value) (x : Value × Nat) => cs.setIfInBounds (o + x.2) x.1) cells = cells2 := by rw [← hcs, ← Array.foldl_toList, Array.toList_zipIdx]
    rw [if_neg (by simp; omega)]
    rw [← e2] at g1
    exact g1

def placesOf (P : Program) (t : TypeId) : Option (List (Nat × Nat)) :=
  match P.underlying t with
  | some (.struct fields) => fields.toList.mapM (fun f => (P.info? f.type).map fun i => (f.offset, i.size))
  | _ => none

def arrSz (P : Program) (t : TypeId) : Option Nat :=
  match P.underlying t with
  | some (.array _ e) => szOf P e
  | _ => none

def aBuild (P : Program) (t : TypeId) (ps : List (Nat × AV)) : Option Res :=
  match placesOf P t, zeroOf P t with
  | some pl, some zs => match fillL (fun i => pl[i]?) (zs.map .v) ps with
    | some xs => some ⟨True, .s (.agg xs), []⟩
    | none => none
  | none, some zs => match arrSz P t with
    | some s => match fillL (fun i => some (i * s, s)) (zs.map .v) ps with
      | some xs => some ⟨True, .s (.agg xs), []⟩
      | none => none
    | none => none
  | _, _ => none

theorem zs_rep : ∀ {zs : List Value}, (∀ z ∈ zs, z.oneCell' = true) → LsRep ρ al (zs.map .v) zs
  | [], _ => trivial
  | z :: zs, hz => ⟨hz z (by simp), rfl, zs_rep fun y hy => hz y (by simp [hy])⟩

theorem zeroOf_some {t : TypeId} {zs : List Value} (hz : zeroOf P t = some zs) : ∃ i z, P.info? t = some i ∧ i.zero = some z ∧ z.cells.toList = zs ∧ z.cells.size = i.size ∧ ∀ y ∈ zs, y.oneCell' = true := by
  unfold zeroOf at hz
  split at hz
  case h_2 => cases hz
  rename_i i hi
  split at hz
  case h_2 => cases hz
  rename_i z hzz
  split at hz
  case isFalse => cases hz
  rename_i hc
  injection hz with hz
  subst hz
  simp only [Bool.and_eq_true, decide_eq_true_eq, List.all_eq_true] at hc
  exact ⟨i, z, hi, hzz, rfl, hc.1, hc.2⟩

theorem aBuild_sound {evr : Operand → Value} {ev : Operand → AV} (hT : ∀ x, ARep ρ al (ev x) (evr x)) {t : TypeId} {ps : Array (Nat × Operand)} {R : Res} (hs : aBuild P t (ps.toList.map fun (i, x) => (i, ev x)) = some R) (w : World) :
    ∃ v, (Instr.build t (ps.map fun (i, x) => (i, evr x))).run P w = .ok v w ∧ ARep ρ al R.r v ∧ R.E = [] := by
  unfold aBuild at hs
  split at hs
  · rename_i pl zs hpl hzs
    split at hs
    case h_2 => cases hs
    rename_i xs hf
    injection hs with hs
    subst hs
    obtain ⟨i, z, hi, hz, hzl, hsz, hone⟩ := zeroOf_some hzs
    obtain ⟨cells', g1, g2, g3⟩ := fillL_sound hT ps.toList (zs.map .v) z.cells xs (by rw [hzl]; exact zs_rep hone) hf
    unfold placesOf at hpl
    split at hpl
    case h_2 => cases hpl
    rename_i fields hu
    refine ⟨_, run_build w t _ cells' ?_, ⟨cells'.toList, by simp, g2⟩, rfl⟩
    simp only [Program.built, hi, hu, hz, hpl]
    rw [← g1]
    simp
  · rename_i zs hpl hzs
    split at hs
    case h_2 => cases hs
    rename_i s hs'
    split at hs
    case h_2 => cases hs
    rename_i xs hf
    injection hs with hs
    subst hs
    obtain ⟨i, z, hi, hz, hzl, hsz, hone⟩ := zeroOf_some hzs
    obtain ⟨cells', g1, g2, g3⟩ := fillL_sound (place := fun i => some (i * s, s)) hT ps.toList (zs.map .v) z.cells xs (by rw [hzl]; exact zs_rep hone) hf
    unfold arrSz at hs'
    split at hs'
    case h_2 => cases hs'
    rename_i m e hu
    unfold szOf at hs'
    cases he : P.info? e with
    | none => simp [he] at hs'
    | some ie =>
      simp [he] at hs'
      refine ⟨_, run_build w t _ cells' ?_, ⟨cells'.toList, by simp, g2⟩, rfl⟩
      simp only [Program.built, hi, hu, hz, he, hs']
      rw [← g1]
      simp
  · cases hs

/-- the elements of a flat list of cells -/
def chunks (sz : Nat) : Nat → List LV → List (List LV)
  | 0, _ => []
  | n + 1, l => l.take sz :: chunks sz n (l.drop sz)

theorem chunks_length (sz : Nat) : ∀ (n : Nat) (l : List LV), (chunks sz n l).length = n
  | 0, _ => rfl
  | n + 1, l => by simp [chunks, chunks_length sz n]

theorem chunks_cell {sz : Nat} : ∀ {n : Nat} {l : List LV} {i j : Nat} {x : LV}, l.length = n * sz → cellAt (chunks sz n l) i j = some x → j < sz ∧ l[i * sz + j]? = some x
  | 0, _, i, j, x, _, h => by simp [chunks, cellAt] at h
  | n + 1, l, 0, j, x, hl, h => by
    simp only [chunks, cellAt, List.getElem?_cons_zero, Option.bind_some] at h
    rw [List.getElem?_take] at h
    split at h
    · exact ⟨by omega, by simpa using h⟩
    · cases h
  | n + 1, l, i + 1, j, x, hl, h => by
    have hl' : (l.drop sz).length = n * sz := by rw [List.length_drop, hl, Nat.succ_mul]; omega
    obtain ⟨h1, h2⟩ := chunks_cell (i := i) hl' (by simpa [chunks, cellAt] using h)
    refine ⟨h1, ?_⟩
    rw [List.getElem?_drop] at h2
    rw [← h2, Nat.succ_mul]
    congr 1
    omega

theorem chunks_len {sz : Nat} : ∀ {n : Nat} {l : List LV}, l.length = n * sz → ∀ e ∈ chunks sz n l, e.length = sz
  | 0, _, _, e, he => by simp [chunks] at he
  | n + 1, l, hl, e, he => by
    rw [Nat.succ_mul] at hl
    rcases List.mem_cons.1 (by simpa [chunks] using he : e ∈ l.take sz :: chunks sz n (l.drop sz)) with rfl | he
    · simp; omega
    · exact chunks_len (by rw [List.length_drop]; omega) e he

def repL : Nat → List Value → List Value
  | 0, _ => []
  | n + 1, zs => repL n zs ++ zs

theorem repL_eq (zs : List Value) : ∀ n, repL n zs = (List.range n).flatMap fun _ => zs
  | 0 => rfl
  | n + 1 => by rw [repL, repL_eq zs n, List.range_succ, List.flatMap_append]; simp

def aBuildSlice (P : Program) (t : TypeId) (n : Nat) (ps : List (Nat × AV)) (id : Nat) : Option Res :=
  match elOf P t with
  | some e => match szOf P e, zeroOf P e with
    | some s, some zs => match fillL (fun i => some (i * s, s)) ((repL n zs).map .v) ps with
      | some xs => if (0 < n ∨ ps = []) ∧ 0 < s ∧ n * s ≤ 16777216 then some ⟨True, .s (.l (.sl id 0 n)), [(id, some ⟨true, e, s, chunks s n xs⟩)]⟩ else none
      | none => none
    | _, _ => none
  | none => none

theorem rep_zs {zs : List Value} {s : Nat} (hs : zs.length = s) (hp : 0 < s) : ∀ n, ((List.range (n * s)).map fun i => zs.toArray[i % s]!) = (List.range n).flatMap fun _ => zs
  | 0 => by simp
  | n + 1 => by
    rw [Nat.succ_mul, List.range_add, List.map_append, rep_zs hs hp n, List.range_succ, List.flatMap_append, List.map_map]
    congr 1
    simp only [List.flatMap_cons, List.flatMap_nil, List.append_nil]
    refine List.ext_getElem (by simp [hs]) fun m h1 h2 => ?_
    simp only [List.getElem_map, List.getElem_range, Function.comp]
    rw [Nat.add_comm, Nat.add_mul_mod_self_right, Nat.mod_eq_of_lt (by rw [← hs]; exact h2)]
    simp [h2]

theorem aBuildSlice_sound (H : WRep B w0 ρ al h w) {evr : Operand → Value} {ev : Operand → AV} (hT : ∀ x, ARep ρ al (ev x) (evr x)) {t : TypeId} {n : Nat} {ps : Array (Nat × Operand)} {id : Nat} (hid : ¬ al id) {R : Res} (hs : aBuildSlice P t n (ps.toList.map fun (i, x) => (i, ev x)) id = some R) :
    ∃ v w' ρ', (Instr.buildSlice t n (ps.map fun (i, x) => (i, evr x))).run P w = .ok v w' ∧ Ext ρ ρ' al (al1 al id) ∧ ARep ρ' (al1 al id) R.r v ∧ WRep B w0 ρ' (al1 al id) (R.E ++ h) w' := by
  unfold aBuildSlice at hs
  split at hs
  case h_2 => cases hs
  rename_i e he
  split at hs
  case h_2 => cases hs
  rename_i s zs hsz hzs
  split at hs
  case h_2 => cases hs
  rename_i xs hf
  rw [repL_eq] at hf
  split at hs
  case isFalse => cases hs
  rename_i hc
  injection hs with hs
  subst hs
  obtain ⟨hn, hs0, hbig⟩ := hc
  obtain ⟨i, z, hi, hz, hzl, hzs', hone⟩ := zeroOf_some hzs
  have his : i.size = s := by have := szOf_info hsz; rw [hi] at this; simpa using this
  have hzlen : zs.length = s := by rw [← hzl, ← his, ← hzs']; simp
  have hu : P.underlying t = some (.slice e) := by
    unfold elOf at he
    split at he
    · rename_i e2 hu; injection he with he; rw [hu, he]
    · cases he
  have h0 : ((Array.range (n * i.size)).map (z.cells[· % z.cells.size]!)).toList = (List.range n).flatMap fun _ => zs := by
    rw [← rep_zs hzlen hs0 n, Array.toList_map, Array.toList_range, hzs', his, ← hzl]
  obtain ⟨cells', g1, g2, g3⟩ := fillL_sound (place := fun i => some (i * s, s)) hT ps.toList _ ((Array.range (n * i.size)).map (z.cells[· % z.cells.size]!)) xs (by rw [h0]; exact zs_rep (by intro y hy; obtain ⟨_, _, hy⟩ := List.mem_flatMap.1 hy; exact hone y hy)) hf
  have hcs : cells'.size = n * s := by rw [g3]; simp [his]
  have hxl : xs.length = n * s := by rw [← g2.length]; simp [hcs]
  rcases Nat.eq_zero_or_pos n with hn0 | hn
  · subst hn0
    have hps : ps = #[] := by
      have := hn.resolve_left (Nat.lt_irrefl 0)
      rw [List.map_eq_nil_iff] at this
      exact Array.toList_inj.1 (by rw [this])
    subst hps
    obtain ⟨ρ', E, e', H'⟩ := H.alloc hid e s 0 (chunks s 0 xs) #[] (by simp) (Nat.zero_le _) (by rw [chunks_length]; exact Nat.le_refl _) ⟨chunks_len hxl, fun i j x hx => by
      obtain ⟨e2, h1, _⟩ := cellAt_some.1 hx
      have := (List.getElem?_eq_some_iff.1 h1).1
      rw [chunks_length] at this
      omega⟩
    refine ⟨_, _, ρ', ?_, E, ⟨.inr rfl, some ⟨w.heap.size, 0, none⟩, (by rw [e']), (by rw [e']; exact Nat.le_refl _), (fun h => by rw [e'] at h; exact absurd h (Nat.lt_irrefl _))⟩, H'⟩
    simp [Instr.buildSlice, run_underlying hu, sizeOf, typeInfo, hi, newRow, Instr.fill, show Array.range 0 = #[] from rfl]
  obtain ⟨ρ', E, e', H'⟩ := H.alloc hid e s n (chunks s n xs) cells' hcs (by unfold maxLen; have : n ≤ n * s := Nat.le_mul_of_pos_right _ hs0; omega) (by rw [chunks_length]; exact Nat.le_refl _) ⟨chunks_len hxl, fun i j x hx => by
    obtain ⟨_, h2⟩ := chunks_cell hxl hx
    exact g2.get _ x h2⟩
  refine ⟨_, _, ρ', run_buildSlice w t e n _ cells' i z hu hi hz (by rw [his]; omega) (by rw [his]; have : 0 < n * s := Nat.mul_pos hn hs0; omega) (by subst his; simpa using g1), E, ⟨.inr rfl, some ⟨w.heap.size, 0, none⟩, (by rw [e']; rfl), (by rw [e']; show 0 + n ≤ n; omega), (fun _ => by rw [e']; simp)⟩, H'⟩

end

end Go.Proofs.YtcdbldakjepjiaaDoor
