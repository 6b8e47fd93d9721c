/- The value logic with lasting memory, part 2: a store into a block of the call's own, and append. No program in sight. -/
import Derived.Test.YtcdbldakjepjiaaDoorU1
set_option linter.unusedVariables false
set_option linter.unusedSimpArgs false
namespace Go.Proofs.YtcdbldakjepjiaaDoor
open Go.RowKit

theorem apart_ix {a b sz j m : Nat} (hj : j < sz) (hm : m < sz) (h : a * sz + j = b * sz + m) : a = b ∧ j = m := by
  have h1 : (a * sz + j) / sz = a := by rw [Nat.mul_comm, Nat.mul_add_div (by omega), Nat.div_eq_of_lt hj]; rfl
  have h2 : (b * sz + m) / sz = b := by rw [Nat.mul_comm, Nat.mul_add_div (by omega), Nat.div_eq_of_lt hm]; rfl
  have e : a = b := by rw [← h1, ← h2, h]
  subst e
  exact ⟨rfl, by omega⟩

theorem ix_lt {i j sz n : Nat} (hi : i < n) (hj : j < sz) : i * sz + j < n * sz := by
  have : (i + 1) * sz ≤ n * sz := Nat.mul_le_mul_right _ hi
  rw [Nat.succ_mul] at this
  omega

theorem setCells_other (b : Nat) : ∀ (vs : List Value) (o : Nat) (w : World) (k : Nat), k ≠ b → (w.setCells b o vs).heap[k]? = w.heap[k]?
  | [], _, _, _, _ => rfl
  | v :: r, o, w, k, h => by
    rw [World.setCells, setCells_other b r (o + 1) _ k h]
    exact Below.heap_setCell _ _ _ _ h

theorem setCells_same (b : Nat) : ∀ (vs : List Value) (o : Nat) (w : World) (cur : Array Value) (T : TypeId) (fr : Nat × Nat), w.heap[b]? = some (.cells cur T fr) → ∃ cur', (w.setCells b o vs).heap[b]? = some (.cells cur' T fr) ∧ cur'.size = cur.size
  | [], _, _, cur, _, _, h => ⟨cur, h, rfl⟩
  | v :: r, o, w, cur, T, fr, h => by
    have h1 : (w.setCell ⟨b, o, none⟩ v).heap[b]? = some (.cells (cur.setIfInBounds o v) T fr) := by
      simp [World.setCell, Array.getElem?_modify, h]
    obtain ⟨cur', h2, h3⟩ := setCells_same b r (o + 1) _ _ T fr h1
    exact ⟨cur', by rw [World.setCells]; exact h2, by rw [h3]; simp⟩

theorem setCells_keeps {S : Nat → Prop} {a : World} (b : Nat) (hB : ¬ S b) : ∀ (vs : List Value) (o : Nat) (w : World), Keeps S a w → Keeps S a (w.setCells b o vs)
  | [], _, _, h => h
  | v :: r, o, w, h => by
    rw [World.setCells]
    exact setCells_keeps b hB r (o + 1) _ (h.setCell hB v)

section
variable {B : Base} {w0 : World} {ρ : Nat → Loc} {al : Al} {h : Heap} {w : World}

theorem cellAt_some {els : List (List LV)} {i j : Nat} {x : LV} : cellAt els i j = some x ↔ ∃ e, els[i]? = some e ∧ e[j]? = some x := by
  unfold cellAt
  cases els[i]? <;> simp

theorem BRep.frozen {b : Nat} {k : Blk} (H : BRep ρ al w b k) (ho : k.own = true) (hc : (ρ b).cap ≠ 0) (o : Nat) (hlt : o < (ρ b).cap * (ρ b).sz) : w.frozen? ⟨(ρ b).blk, o, none⟩ = false := by
  obtain ⟨cur, fr, h1, h2, h3⟩ := (H.room ho).2.2 hc
  obtain ⟨lo, hi⟩ := fr
  simp only [World.frozen?, h1]
  simp only at h3
  rw [Bool.and_eq_false_iff, decide_eq_false_iff_not, decide_eq_false_iff_not]
  rcases h3 with h3 | h3 <;> omega

/-- blocks of the call's own other than one -/
theorem WRep.other (H : WRep B w0 ρ al h w) {b : Nat} {k : Blk} (hk : hget h b = some k) (ho : k.own = true) (hc : (ρ b).cap ≠ 0) {c : Nat} {l : Blk} (hl : hget h c = some l) (hlc : l.els ≠ [] ∨ (l.own = true ∧ (ρ c).cap ≠ 0)) (hne : c ≠ b) : (ρ c).blk ≠ (ρ b).blk := by
  cases ol : l.own with
  | true =>
    have hcc : (ρ c).cap ≠ 0 := by
      rcases hlc with hlc | hlc
      · have := (H.blk c l hl).cap
        intro h0
        exact hlc (List.eq_nil_of_length_eq_zero (by omega))
      · exact hlc.2
    exact H.apart c b l k hl hk ol ho hcc hc hne
  | false =>
    have h1 := H.old c l hl ol (hlc.resolve_right (by rw [ol]; simp))
    have h2 := H.own b k hk ho hc
    exact fun e => h2 (e ▸ h1)

/-- memory that lasts lies in other blocks -/
theorem WRep.memOther (H : WRep B w0 ρ al h w) {b : Nat} {k : Blk} (hk : hget h b = some k) (ho : k.own = true) (hc : (ρ b).cap ≠ 0) {c : Nat} (hm : ∃ o y, al.M c o = some y) : c ≠ (ρ b).blk := by
  rintro rfl
  obtain ⟨o, y, hy⟩ := hm
  rw [H.memOwn b k hk ho hc o] at hy
  cases hy

theorem hget_hide {b : Nat} {h : Heap} : ∀ c k, hget ((b, none) :: h) c = some k → c ≠ b ∧ hget h c = some k := by
  intro c k hk
  rw [hget] at hk
  split at hk
  · cases hk
  · rename_i e; exact ⟨fun e' => e e'.symm, hk⟩

theorem hget_over {b : Nat} {x : Blk} {h : Heap} : ∀ c k, hget ((b, some x) :: h) c = some k → hget ((b, some x) :: (b, none) :: h) c = some k := by
  intro c k hk
  rw [hget] at hk ⊢
  split
  · rename_i e; rw [if_pos e] at hk; exact hk
  · rename_i e
    rw [if_neg e] at hk
    rw [hget, if_neg e]
    exact hk

def splice (e : List LV) (j : Nat) (xs : List LV) : List LV := e.take j ++ xs ++ e.drop (j + xs.length)

theorem splice_length {e : List LV} {j : Nat} {xs : List LV} (h : j + xs.length ≤ e.length) : (splice e j xs).length = e.length := by
  simp [splice]; omega

theorem splice_get {e : List LV} {j : Nat} {xs : List LV} (h : j + xs.length ≤ e.length) (m : Nat) : (splice e j xs)[m]? = if m < j then e[m]? else if m < j + xs.length then xs[m - j]? else e[m]? := by
  unfold splice
  rw [List.append_assoc, List.getElem?_append]
  have hl : (e.take j).length = j := by simp; omega
  rw [hl]
  by_cases h1 : m < j
  · rw [if_pos h1, if_pos h1, List.getElem?_take, if_pos h1]
  · rw [if_neg h1, if_neg h1, List.getElem?_append]
    by_cases h2 : m < j + xs.length
    · rw [if_pos (by omega), if_pos h2]
    · rw [if_neg (by omega), if_neg h2, List.getElem?_drop]
      congr 1
      omega

theorem WRep.there (H : WRep B w0 ρ al h w) {b : Nat} {k : Blk} (hk : hget h b = some k) (ho : k.own = true) {i j : Nat} {e : List LV} (he : k.els[i]? = some e) {n : Nat} (hj : j + n ≤ k.sz) :
    w.there (ρ b).blk ((ρ b).off + i * (ρ b).sz + j) n := by
  have Hb := H.blk b k hk
  have hil : i < k.els.length := (List.getElem?_eq_some_iff.1 he).1
  have hcap : (ρ b).cap ≠ 0 := by have := Hb.cap; omega
  have hel : e.length = k.sz := Hb.len e (List.mem_of_getElem? he)
  intro m hm
  refine ⟨?_, Hb.frozen ho hcap _ ?_⟩
  rotate_left
  · have h1 := (Hb.room ho).1
    have h2 := ix_lt (i := i) (j := j + m) (sz := k.sz) (n := (ρ b).cap) (by have := Hb.cap; omega) (by omega)
    rw [h1, Hb.sz]; omega
  obtain ⟨y, h1, _⟩ := Hb.cells i (j + m) e[j + m] (cellAt_some.2 ⟨e, he, List.getElem?_eq_getElem (by omega)⟩)
  rw [Nat.add_assoc _ j m, h1]
  rfl

theorem WRep.store (H : WRep B w0 ρ al h w) {b : Nat} {k : Blk} (hk : hget h b = some k) (ho : k.own = true) {i j : Nat} {e : List LV} (he : k.els[i]? = some e) {xs : List LV} {ys : List Value} (hx : LsRep ρ al xs ys) (hj : j + xs.length ≤ k.sz) :
    WRep B w0 ρ al ((b, some { k with els := k.els.set i (splice e j xs) }) :: h) (w.setCells (ρ b).blk ((ρ b).off + i * (ρ b).sz + j) ys) := by
  have Hb := H.blk b k hk
  have hil : i < k.els.length := (List.getElem?_eq_some_iff.1 he).1
  have hcap : (ρ b).cap ≠ 0 := by have := Hb.cap; omega
  have hel : e.length = k.sz := Hb.len e (List.mem_of_getElem? he)
  have hyl := hx.length
  have ht := H.there hk ho he (n := ys.length) (by rw [hyl]; exact hj)
  have hB := H.own b k hk ho hcap
  obtain ⟨cur, fr, hcur, hsz, hfr⟩ := (Hb.room ho).2.2 hcap
  have H0 : WRep B w0 ρ al ((b, none) :: h) w := H.sub fun c l hl => (hget_hide c l hl).2
  have H1 : WRep B w0 ρ al ((b, none) :: h) (w.setCells (ρ b).blk ((ρ b).off + i * (ρ b).sz + j) ys) :=
    H0.step (.refl _ _) (setCells_keeps _ hB _ _ _ H.below) (fun c l hl hc => setCells_other _ _ _ _ _ (H.other hk ho hcap (hget_hide c l hl).2 hc (hget_hide c l hl).1)) (fun c hc => setCells_other _ _ _ _ _ (H.memOther hk ho hcap hc))
  refine (H1.more (k := { k with els := k.els.set i (splice e j xs) }) ⟨Hb.here, Hb.own, Hb.sz, ?_, ?_, ?_, ?_⟩ ho (fun _ => hB) (H.memOwn b k hk ho) ?_).sub (fun c l hl => hget_over c l hl)
  · intro u hu
    rcases List.mem_or_eq_of_mem_set hu with hu | rfl
    · exact Hb.len u hu
    · rw [splice_length (by omega), hel]
  · simpa using Hb.cap
  · intro i' j' x hx'
    obtain ⟨u, hu, hj'⟩ := cellAt_some.1 hx'
    rw [List.getElem?_set] at hu
    have hsz' := Hb.sz
    by_cases hii : i = i'
    · subst hii
      rw [if_pos rfl, if_pos hil] at hu
      injection hu with hu
      subst hu
      rw [splice_get (by omega)] at hj'
      by_cases h1 : j' < j
      · rw [if_pos h1] at hj'
        obtain ⟨y, g1, g2, g3⟩ := Hb.cells i j' x (cellAt_some.2 ⟨e, he, hj'⟩)
        refine ⟨y, ?_, g2, g3⟩
        rw [World.cell?_setCells_out _ _ _ _ _ (fun _ _ => .inl (by show _ + _ + _ < _; omega))]
        exact g1
      · rw [if_neg h1] at hj'
        by_cases h2 : j' < j + xs.length
        · rw [if_pos h2] at hj'
          obtain ⟨y, g1, g2, g3⟩ := hx.get (j' - j) x hj'
          have hlt : j' - j < ys.length := (List.getElem?_eq_some_iff.1 g1).1
          refine ⟨y, ?_, g2, g3⟩
          have := World.cell?_setCells_in (ρ b).blk ys ((ρ b).off + i * (ρ b).sz + j) w (fun m hm => (ht m hm).1) (j' - j) hlt
          rw [show (ρ b).off + i * (ρ b).sz + j' = (ρ b).off + i * (ρ b).sz + j + (j' - j) by omega, this, ← g1, List.getElem?_eq_getElem hlt]
        · rw [if_neg h2] at hj'
          obtain ⟨y, g1, g2, g3⟩ := Hb.cells i j' x (cellAt_some.2 ⟨e, he, hj'⟩)
          refine ⟨y, ?_, g2, g3⟩
          rw [World.cell?_setCells_out _ _ _ _ _ (fun _ _ => .inr (by show _ ≤ _ + _ + _; omega))]
          exact g1
    · rw [if_neg hii] at hu
      obtain ⟨y, g1, g2, g3⟩ := Hb.cells i' j' x (cellAt_some.2 ⟨u, hu, hj'⟩)
      refine ⟨y, ?_, g2, g3⟩
      have hj2 : j' < k.sz := by rw [← Hb.len u (List.mem_of_getElem? hu)]; exact (List.getElem?_eq_some_iff.1 hj').1
      rw [World.cell?_setCells_out _ _ _ _ _ (fun _ _ => ?_)]
      · exact g1
      · show (ρ b).off + i' * (ρ b).sz + j' < _ ∨ _ ≤ (ρ b).off + i' * (ρ b).sz + j'
        rw [hsz', hyl]
        rcases Nat.lt_or_gt_of_ne hii with hlt | hgt
        · right
          have : (i + 1) * k.sz ≤ i' * k.sz := Nat.mul_le_mul_right _ hlt
          rw [Nat.succ_mul] at this
          omega
        · left
          have : (i' + 1) * k.sz ≤ i * k.sz := Nat.mul_le_mul_right _ hgt
          rw [Nat.succ_mul] at this
          omega
  · intro _
    refine ⟨(Hb.room ho).1, (Hb.room ho).2.1, fun _ => ?_⟩
    obtain ⟨cur', g1, g2⟩ := setCells_same (ρ b).blk ys ((ρ b).off + i * (ρ b).sz + j) w cur k.T fr hcur
    exact ⟨cur', fr, g1, by rw [g2]; exact hsz, by rw [g2]; exact hfr⟩
  · intro c l hl ol cl hne _
    exact H.other hk ho hcap (hget_hide c l hl).2 (.inr ⟨ol, cl⟩) hne

theorem get_mul {els : List (List LV)} {sz : Nat} (hlen : ∀ e ∈ els, e.length = sz) {i0 m : Nat} (hm : i0 + m ≤ els.length) {q : Nat} (hq : q < m * sz) : ∃ x, cellAt els (i0 + q / sz) (q % sz) = some x := by
  have hsz : 0 < sz := Nat.pos_of_ne_zero (by rintro rfl; simp at hq)
  have h1 : q / sz < m := (Nat.div_lt_iff_lt_mul hsz).2 hq
  have h2 : i0 + q / sz < els.length := by omega
  refine ⟨els[i0 + q / sz][q % sz]'(by rw [hlen _ (List.getElem_mem h2)]; exact Nat.mod_lt _ hsz), ?_⟩
  exact cellAt_some.2 ⟨_, List.getElem?_eq_getElem h2, List.getElem?_eq_getElem _⟩

/-- the cells of some elements of a block, as they lie in the world -/
theorem BRep.row {b : Nat} {k : Blk} (H : BRep ρ al w b k) {i0 m : Nat} (hm : i0 + m ≤ k.els.length) :
    ∃ news : List Value, news.length = m * k.sz ∧ (∀ (j : Nat) (u : Value), news[j]? = some u → w.cell? ((⟨(ρ b).blk, (ρ b).off + i0 * (ρ b).sz, none⟩ : Addr).add j) = some u) ∧ (∀ u ∈ news, u.oneCell' = true) ∧ ∀ i j x, i < m → cellAt k.els (i0 + i) j = some x → ∃ y, news[i * k.sz + j]? = some y ∧ y.oneCell' = true ∧ LRep ρ al x y := by
  have hs := H.sz
  have key : ∀ q, q < m * k.sz → ∃ y, w.cell? ⟨(ρ b).blk, (ρ b).off + i0 * k.sz + q, none⟩ = some y ∧ y.oneCell' = true := by
    intro q hq
    obtain ⟨x, hx⟩ := get_mul H.len hm hq
    obtain ⟨y, h1, h2, _⟩ := H.cells _ _ x hx
    refine ⟨y, ?_, h2⟩
    have hd := Nat.div_add_mod q k.sz
    rw [hs] at h1
    rw [show (ρ b).off + i0 * k.sz + q = (ρ b).off + (i0 + q / k.sz) * k.sz + q % k.sz by rw [Nat.add_mul, Nat.mul_comm (q / k.sz)]; omega]
    exact h1
  refine ⟨(List.range (m * k.sz)).map fun q => (w.cell? ⟨(ρ b).blk, (ρ b).off + i0 * k.sz + q, none⟩).getD undef, by simp, ?_, ?_, ?_⟩
  · intro j u hu
    have hj : j < m * k.sz := by have := (List.getElem?_eq_some_iff.1 hu).1; simpa using this
    rw [List.getElem?_map, List.getElem?_range hj, Option.map_some] at hu
    injection hu with hu
    subst hu
    obtain ⟨y, h1, _⟩ := key j hj
    rw [Addr.add_mid, hs, h1]; rfl
  · intro u hu
    obtain ⟨q, hq, rfl⟩ := List.mem_map.1 hu
    obtain ⟨y, h1, h2⟩ := key q (List.mem_range.1 hq)
    rw [h1]; exact h2
  · intro i j x hi hx
    obtain ⟨u, hu, hj⟩ := cellAt_some.1 hx
    have hj2 : j < k.sz := by rw [← H.len u (List.mem_of_getElem? hu)]; exact (List.getElem?_eq_some_iff.1 hj).1
    have hlt := ix_lt hi hj2
    obtain ⟨y, h1, h2, h3⟩ := H.cells _ _ x hx
    refine ⟨y, ?_, h2, h3⟩
    rw [List.getElem?_map, List.getElem?_range hlt, Option.map_some]
    rw [hs, show (ρ b).off + (i0 + i) * k.sz + j = (ρ b).off + i0 * k.sz + (i * k.sz + j) by rw [Nat.add_mul]; omega] at h1
    rw [h1]; rfl

variable {P : Program}

/-- old cells, then new ones -/
theorem two_rows {k : Blk} {rows : List (List LV)} {n sz : Nat} {olds news : List Value} (hn : n ≤ k.els.length) (hlk : ∀ e ∈ k.els, e.length = sz) (hol : olds.length = n * sz)
    (ho : ∀ i j x, i < n → cellAt k.els i j = some x → ∃ y, olds[i * sz + j]? = some y ∧ y.oneCell' = true ∧ LRep ρ al x y) (hw : ∀ i j x, cellAt rows i j = some x → ∃ y, news[i * sz + j]? = some y ∧ y.oneCell' = true ∧ LRep ρ al x y) :
    ∀ i j x, cellAt (k.els.take n ++ rows) i j = some x → ∃ y, (olds ++ news)[i * sz + j]? = some y ∧ y.oneCell' = true ∧ LRep ρ al x y := by
  intro i j x hx
  obtain ⟨u, hu, hj⟩ := cellAt_some.1 hx
  have htl : (k.els.take n).length = n := by simp; omega
  rw [List.getElem?_append, htl] at hu
  by_cases hin : i < n
  · rw [if_pos hin, List.getElem?_take, if_pos hin] at hu
    have hj2 : j < sz := by rw [← hlk u (List.mem_of_getElem? hu)]; exact (List.getElem?_eq_some_iff.1 hj).1
    obtain ⟨y, g1, g2, g3⟩ := ho i j x hin (cellAt_some.2 ⟨u, hu, hj⟩)
    refine ⟨y, ?_, g2, g3⟩
    rw [List.getElem?_append, if_pos (by rw [hol]; exact ix_lt hin hj2)]
    exact g1
  · rw [if_neg hin] at hu
    obtain ⟨y, g1, g2, g3⟩ := hw (i - n) j x (cellAt_some.2 ⟨u, hu, hj⟩)
    refine ⟨y, ?_, g2, g3⟩
    have hmul : n * sz ≤ i * sz := Nat.mul_le_mul_right _ (by omega)
    rw [List.getElem?_append, if_neg (by rw [hol]; omega), hol, ← g1]
    congr 1
    rw [Nat.sub_mul]
    omega

theorem zeroCells_size (z : Array Value) (n : Nat) : (Builtin.zeroCells z n).size = n * z.size := by simp [Builtin.zeroCells]

/-- What is appended: m elements whose cells are news, whatever is drawn meanwhile. -/
structure Src (P : Program) (x : Value) (t2 : TypeId) (size m : Nat) (news : List Value) (w : World) : Prop where
  len : ∀ w', (Builtin.lenOf x).run P w' = .ok m w'
  ty : (∃ e, P.underlying t2 = some (.slice e)) ∨ P.underlying t2 = some .string
  first : ∀ w' : World, w'.heap = w.heap → (Builtin.firstCells size m x).run P w' = .ok news.toArray w'

theorem run_append_src_fits (t t2 ty e : TypeId) (i : TypeInfo) (ht : P.underlying t = some (.slice e)) (hi : P.info? e = some i) (b n C : Nat) (m : Nat) (x : Value) (news : List Value) (hs : Src P x t2 i.size m news w) (h1 : ∀ u ∈ news, u.oneCell' = true)
    (hc : ∀ j, j < news.length → (w.cell? ⟨b, n * i.size + j, none⟩).isSome = true) (hf : ∀ j, j < news.length → w.frozen? ⟨b, n * i.size + j, none⟩ = false) (hroom : n + m ≤ C) :
    (Builtin.append_ #[t, t2] ty #[.slice (some ⟨b, 0, none⟩) n C, x]).run P w = .ok (.slice (some ⟨b, 0, none⟩) (n + m) C) (w.setCells b (n * i.size) news) := by
  have hst := run_storeCells_cells (P := P) b (n * i.size) news 0 w (by simpa using hc) (by simpa using hf) h1
  have hadd : (⟨b, 0, none⟩ : Addr).add (n * i.size) = ⟨b, n * i.size, none⟩ := by rw [Addr.add_mid, Nat.zero_add]
  simp only [Nat.add_zero] at hst
  have hfc := hs.first w rfl
  have hln := hs.len w
  rcases hs.ty with ⟨e2, hd⟩ | hd <;> simp [Builtin.append_, run_underlying ht, run_underlying hd, sizeOf, typeInfo, hi, hln, hroom, hfc, hadd, hst]

theorem run_append_src_none (t t2 ty e : TypeId) (i : TypeInfo) (ht : P.underlying t = some (.slice e)) (hi : P.info? e = some i) (A : Option Addr) (x : Value) (hs : Src P x t2 i.size 0 [] w) :
    (Builtin.append_ #[t, t2] ty #[.slice A 0 0, x]).run P w = .ok (.slice A 0 0) w := by
  have hfc := hs.first w rfl
  have hln := hs.len w
  rcases hs.ty with ⟨e2, hd⟩ | hd <;> cases A <;> simp [Builtin.append_, run_underlying ht, run_underlying hd, sizeOf, typeInfo, hi, hln, hfc, storeCells]

theorem run_append_src_grow (t t2 ty e : TypeId) (i : TypeInfo) (z : Value) (ht : P.underlying t = some (.slice e)) (hi : P.info? e = some i) (hz : i.zero = some z)
    (A : Option Addr) (n C : Nat) (olds : List Value) (holds : ∀ w' : World, w'.heap = w.heap → (Builtin.firstCells i.size n (.slice A n C)).run P w' = .ok olds.toArray w')
    (m : Nat) (x : Value) (news : List Value) (hs : Src P x t2 i.size m news w)
    (hg : C < n + m) (h63 : ((n + m : Nat) : Int) ≤ 9223372036854775807) (hfit : Builtin.nextslicecap (n + m) C * i.bytes ≤ 281474976710656) :
    (Builtin.append_ #[t, t2] ty #[.slice A n C, x]).run P w =
      .ok (.slice (some ⟨w.heap.size, 0, none⟩) (n + m) (grownCap w (n + m) C e))
        (w.drew.alloc (.cells (olds.toArray ++ news.toArray ++ Builtin.zeroCells z.cells (grownCap w (n + m) C e - (n + m))) e)) := by
  have hn : ¬ (n + m ≤ C) := by omega
  have h63' : ¬ (9223372036854775807 < ((n : Int) + (m : Int))) := by omega
  have h48' : ¬ (281474976710656 < Builtin.nextslicecap (n + m) C * i.bytes) := by omega
  have hf := hs.first w.drew rfl
  have hfo := holds w.drew rfl
  have hln := hs.len w
  rcases hs.ty with ⟨e2, hd⟩ | hd <;> (simp [Builtin.append_, run_underlying ht, run_underlying hd, sizeOf, typeInfo, zeroValue, hi, hz, hln, hn, h63', h48', Question.forced, hf, hfo, newRow, grownCap]; congr 2; apply Array.ext'; simp [List.append_assoc])

/-- append, to a slice of the call's own (or to nil): the elements are copied behind the first n; the old block is given up. -/
theorem WRep.append (H : WRep B w0 ρ al h w) {id : Nat} (hid : ¬ al id) {b : Nat} {k : Blk} (hk : hget h b = some k) (ho : k.own = true) {n : Nat} {v : Value} (hv : LRep ρ al (.sl b 0 n) v) (hn : n ≤ k.els.length)
    {m : Nat} {rows : List (List LV)} {u : Value} {t2 : TypeId} {news : List Value} (hrl : rows.length = m) (hre : ∀ e ∈ rows, e.length = k.sz) (hsrc : Src P u t2 k.sz m news w) (n1 : news.length = m * k.sz) (n3 : ∀ u ∈ news, u.oneCell' = true)
    (n4 : ∀ i j x, cellAt rows i j = some x → ∃ y, news[i * k.sz + j]? = some y ∧ y.oneCell' = true ∧ LRep ρ al x y)
    {t ty : TypeId} {i : TypeInfo} {z : Value} {bytes : Nat} (ht : P.underlying t = some (.slice k.T)) (hi : P.info? k.T = some i) (hz : i.zero = some z) (hsize : i.size = k.sz) (hby : i.bytes = bytes) (hzs : z.cells.size = k.sz)
    (h63 : n + m ≤ maxLen) (hbytes : (n + m) * bytes ≤ 140737488355328) :
    ∃ v' w' ρ', (Builtin.append_ #[t, t2] ty #[v, u]).run P w = .ok v' w' ∧ Ext ρ ρ' al (al1 al id) ∧ LRep ρ' (al1 al id) (.sl id 0 (n + m)) v' ∧
      WRep B w0 ρ' (al1 al id) ((id, some ⟨true, k.T, k.sz, k.els.take n ++ rows⟩) :: (b, none) :: h) w' := by
  have Hb := H.blk b k hk
  obtain ⟨-, A, rfl, hcap, hA⟩ := hv
  have hr := Hb.room ho
  have hbs := Hb.sz
  have hoff := hr.1
  have h63' : ((n + m : Nat) : Int) ≤ 9223372036854775807 := by unfold maxLen at h63; omega
  have H0 : WRep B w0 ρ al ((b, none) :: h) w := H.sub fun c l hl => (hget_hide c l hl).2
  have htl : (k.els.take n).length = n := by simp; omega
  have hlen : ∀ e ∈ k.els.take n ++ rows, e.length = k.sz := by
    intro e he
    rcases List.mem_append.1 he with he | he
    · exact Hb.len e (List.mem_of_mem_take he)
    · exact hre e he
  rw [← hsize] at hsrc
  -- a new block
  have grow : ∀ (olds : List Value) (cap' : Nat), olds.length = n * k.sz → n + m ≤ cap' → cap' ≤ maxLen → (∀ i j x, i < n → cellAt k.els i j = some x → ∃ y, olds[i * k.sz + j]? = some y ∧ y.oneCell' = true ∧ LRep ρ al x y) →
      ∀ cells : Array Value, cells.toList = (olds ++ news) ++ (Builtin.zeroCells z.cells (cap' - (n + m))).toList →
      ∃ ρ', Ext ρ ρ' al (al1 al id) ∧ LRep ρ' (al1 al id) (.sl id 0 (n + m)) (.slice (some ⟨w.heap.size, 0, none⟩) (n + m) cap') ∧ WRep B w0 ρ' (al1 al id) ((id, some ⟨true, k.T, k.sz, k.els.take n ++ rows⟩) :: (b, none) :: h) (w.drew.alloc (.cells cells k.T)) := by
    intro olds cap' hol hge hle hold cells hcells
    have hcsz : cells.size = cap' * k.sz := by
      have h1 : cells.size = cells.toList.length := by simp
      rw [h1, hcells, List.length_append, List.length_append, hol, n1]
      have h2 : (Builtin.zeroCells z.cells (cap' - (n + m))).toList.length = (cap' - (n + m)) * k.sz := by rw [Array.length_toList, zeroCells_size, hzs]
      rw [h2, ← Nat.add_mul, ← Nat.add_mul]
      congr 1
      omega
    obtain ⟨ρ', E, e, H'⟩ := H0.drew.alloc hid k.T k.sz cap' (k.els.take n ++ rows) cells hcsz hle (by rw [List.length_append, htl, hrl]; exact hge) ⟨hlen, fun i j x hx => by
      obtain ⟨y, g1, g2⟩ := two_rows hn Hb.len hol hold n4 i j x hx
      refine ⟨y, ?_, g2⟩
      rw [hcells, List.getElem?_append_left (List.getElem?_eq_some_iff.1 g1).1]
      exact g1⟩
    exact ⟨ρ', E, ⟨.inr rfl, some ⟨w.heap.size, 0, none⟩, (by rw [e]; rfl), (by rw [e]; show 0 + (n + m) ≤ cap'; omega), (fun _ => by rw [e]; simp)⟩, H'⟩
  by_cases hc0 : (ρ b).cap = 0
  · have hn0 : n = 0 := by omega
    subst hn0
    rw [hc0]
    by_cases hm0 : m = 0
    · subst hm0
      have hnews : news = [] := List.eq_nil_of_length_eq_zero (by simpa using n1)
      have hrows : rows = [] := List.eq_nil_of_length_eq_zero hrl
      subst hnews
      subst hrows
      have hrun := run_append_src_none (P := P) (w := w) t t2 ty k.T i ht hi A u hsrc
      have E : Ext ρ (ρ1 ρ id ⟨0, 0, k.sz, 0, true⟩) al (al1 al id) := Ext.new hid _
      have e := ρ1_id ρ id ⟨0, 0, k.sz, 0, true⟩
      generalize ρ1 ρ id ⟨0, 0, k.sz, 0, true⟩ = ρ' at *
      refine ⟨_, _, ρ', hrun, E, ⟨.inr rfl, A, by rw [e]; rfl, by rw [e]; simp, fun h0 => by rw [e] at h0; simp at h0⟩, (H0.step E H0.below (fun _ _ _ _ => rfl) (fun _ _ => rfl)).more ⟨.inr rfl, by rw [e], by rw [e], by simp, by simp, fun i j x hx => by simp [cellAt] at hx, fun _ => by rw [e]; exact ⟨rfl, Nat.zero_le _, fun h0 => absurd rfl h0⟩⟩ rfl (fun h0 => by rw [e] at h0; exact absurd rfl h0) (fun h0 => by rw [e] at h0; exact absurd rfl h0) ?_⟩
      intro c l _ _ _ _ h0
      rw [e] at h0
      exact absurd rfl h0
    · have hrun := run_append_src_grow (P := P) (w := w) t t2 ty k.T i z ht hi hz A 0 0 [] (by
          intro w' _
          cases A with
          | none => simp [Builtin.firstCells]
          | some A => exact run_firstCells_some (P := P) w' i.size 0 A 0 0 [] (by simp) (by simp)) m u news hsrc (by omega) h63' (growslice_fits (by omega) (by rw [hby]; exact hbytes))
      obtain ⟨ρ', E, g1, g2⟩ := grow [] (grownCap w (0 + m) 0 k.T) (by simp) (grownCap_ge _ _ _ _) (grownCap_le_maxLen _ _ _ _ h63) (fun i j x hi => absurd hi (by omega)) (([] : List Value).toArray ++ news.toArray ++ Builtin.zeroCells z.cells (grownCap w (0 + m) 0 k.T - (0 + m))) (by simp)
      exact ⟨_, _, ρ', hrun, E, g1, g2⟩
  · have hA' := hA (by omega)
    rw [hoff, Nat.zero_mul, Nat.add_zero] at hA'
    subst hA'
    rw [Nat.sub_zero]
    obtain ⟨olds, o1, o2, o3, o4⟩ := Hb.row (i0 := 0) (m := n) (by omega)
    simp only [hoff, Nat.zero_mul, Nat.add_zero, Nat.zero_add] at o2 o4
    by_cases hfit : n + m ≤ (ρ b).cap
    · -- there is room
      have hB := H.own b k hk ho hc0
      obtain ⟨cur, fr, hcur, hcsz, hfr⟩ := hr.2.2 hc0
      have hub : ∀ j, j < news.length → n * k.sz + j < (ρ b).cap * (ρ b).sz := by
        intro j hj
        rw [n1] at hj
        have : (n + m) * k.sz ≤ (ρ b).cap * k.sz := Nat.mul_le_mul_right _ hfit
        rw [Nat.add_mul] at this
        rw [hbs]
        omega
      have hex : ∀ j, j < news.length → (w.cell? ⟨(ρ b).blk, n * k.sz + j, none⟩).isSome = true := by
        intro j hj
        rw [cell_of_row _ _ _ _ _ _ hcur, Array.getElem?_eq_getElem (by rw [hcsz]; exact hub j hj)]
        rfl
      have hrun := run_append_src_fits (P := P) (w := w) t t2 ty k.T i ht hi (ρ b).blk n (ρ b).cap m u news hsrc n3 (by rw [hsize]; exact hex) (by rw [hsize]; exact fun j hj => Hb.frozen ho hc0 _ (hub j hj)) hfit
      rw [hsize] at hrun
      have E : Ext ρ (ρ1 ρ id ⟨(ρ b).blk, 0, k.sz, (ρ b).cap, true⟩) al (al1 al id) := Ext.new hid _
      have e := ρ1_id ρ id ⟨(ρ b).blk, 0, k.sz, (ρ b).cap, true⟩
      generalize ρ1 ρ id ⟨(ρ b).blk, 0, k.sz, (ρ b).cap, true⟩ = ρ' at *
      have H1 : WRep B w0 ρ' (al1 al id) ((b, none) :: h) (w.setCells (ρ b).blk (n * k.sz) news) :=
        H0.step E (setCells_keeps _ hB _ _ _ H.below) (fun d q hd hc => setCells_other _ _ _ _ _ (H.other hk ho hc0 (hget_hide d q hd).2 hc (hget_hide d q hd).1)) (fun c hc => setCells_other _ _ _ _ _ (H.memOther hk ho hc0 hc))
      obtain ⟨cur', g1, g2⟩ := setCells_same (ρ b).blk news (n * k.sz) w cur k.T fr hcur
      refine ⟨_, _, ρ', hrun, E, ⟨.inr rfl, some ⟨(ρ b).blk, 0, none⟩, (by rw [e]; rfl), (by rw [e]; show 0 + (n + m) ≤ (ρ b).cap; omega), (fun _ => by rw [e]; simp)⟩, H1.more ⟨.inr rfl, by rw [e], by rw [e], hlen, by rw [e, List.length_append, htl, hrl]; exact hfit, ?_, ?_⟩ rfl (fun _ => by rw [e]; exact hB) (fun _ => by rw [e]; exact H.memOwn b k hk ho hc0) ?_⟩
      · intro i' j x hx
        obtain ⟨y, g3, g4, g5⟩ := two_rows hn Hb.len o1 (fun i j x hi hx => o4 i j x hi hx) n4 i' j x hx
        refine ⟨y, ?_, g4, g5.ext E⟩
        rw [e]
        show (w.setCells (ρ b).blk (n * k.sz) news).cell? ⟨(ρ b).blk, 0 + i' * k.sz + j, none⟩ = some y
        rw [Nat.zero_add]
        rw [List.getElem?_append, o1] at g3
        split at g3
        · rename_i hlt
          rw [World.cell?_setCells_out _ _ _ _ _ (fun _ _ => .inl hlt)]
          have := o2 (i' * k.sz + j) y g3
          rwa [Addr.add_mid, Nat.zero_add] at this
        · rename_i hge
          have hjl := (List.getElem?_eq_some_iff.1 g3).1
          have := World.cell?_setCells_in (ρ b).blk news (n * k.sz) w hex (i' * k.sz + j - n * k.sz) hjl
          rw [show i' * k.sz + j = n * k.sz + (i' * k.sz + j - n * k.sz) by omega, this, ← g3, List.getElem?_eq_getElem hjl]
      · intro _
        rw [e]
        exact ⟨rfl, hr.2.1, fun _ => ⟨cur', fr, g1, by rw [g2, hcsz, hbs], by rw [g2]; exact hfr⟩⟩
      · intro d q hd od cd hne _
        have hd' := hget_hide d q hd
        have ed := E.eq d (H.blk d q hd'.2).here
        rw [e, ed]
        rw [ed] at cd
        exact H.other hk ho hc0 hd'.2 (.inr ⟨od, cd⟩) hd'.1
    · have hrun := run_append_src_grow (P := P) (w := w) t t2 ty k.T i z ht hi hz (some ⟨(ρ b).blk, 0, none⟩) n (ρ b).cap olds (by
          intro w' hw'
          refine run_firstCells_some (P := P) w' i.size n ⟨(ρ b).blk, 0, none⟩ n (ρ b).cap olds (by rw [hsize]; exact o1) fun j v hv => ?_
          rw [World.cell?_of_block (w := w) (by rw [hw'])]
          exact o2 j v hv) m u news hsrc (by omega) h63' (growslice_fits (by omega) (by rw [hby]; exact hbytes))
      obtain ⟨ρ', E, g1, g2⟩ := grow olds (grownCap w (n + m) (ρ b).cap k.T) o1 (grownCap_ge _ _ _ _) (grownCap_le_maxLen _ _ _ _ h63) (fun i j x hi hx => o4 i j x hi hx) (olds.toArray ++ news.toArray ++ Builtin.zeroCells z.cells (grownCap w (n + m) (ρ b).cap k.T - (n + m))) (by simp)
      exact ⟨_, _, ρ', hrun, E, g1, g2⟩

end

end Go.Proofs.YtcdbldakjepjiaaDoor
