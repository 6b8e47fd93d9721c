/- The value logic with lasting memory, part 15: what is made lasting on the way; nil cells; panics through loops. No program in sight. -/
import Derived.Test.YtcdbldakjepjiaaDoorU14
set_option linter.unusedVariables false
set_option linter.unusedSimpArgs false
namespace Go.Proofs.YtcdbldakjepjiaaDoor
open Go.RowKit

section
variable {B : Base} {w0 : World} {ρ : Nat → Loc} {al : Al} {h : Heap} {w : World} {U : List Nat}

/-- Some own blocks are made lasting. -/
theorem WRep.freeze (H : WRep B w0 ρ al h w) (U : List Nat) : Ext ρ ρ al ⟨al.p, frzM al.M ρ h U w⟩ ∧ WRep B w0 ρ ⟨al.p, frzM al.M ρ h U w⟩ ((U.map fun b => (b, none)) ++ h) w := by
  have E : Ext ρ ρ al ⟨al.p, frzM al.M ρ h U w⟩ := ⟨fun _ _ => rfl, frzM_le, fun _ hb => hb⟩
  refine ⟨E, H.base, H.below, fun b k hk => (H.blk b k (hget_hides hk).2).ext E rfl, fun b k hk => H.own b k (hget_hides hk).2, fun b k hk => H.old b k (hget_hides hk).2, fun b c k l hk hl => H.apart b c k l (hget_hides hk).2 (hget_hides hl).2, fun b o y hy => frzM_mem H hy, fun b k hk ho hc o => ?_, fun b o y hy => ?_, Mem.le_trans H.memOld frzM_le, H.pins⟩
  · obtain ⟨hn, hk⟩ := hget_hides hk
    cases hy : frzM al.M ρ h U w (ρ b).blk o with
    | none => exact hy
    | some y =>
      rcases frzM_some hy with h2 | ⟨⟨c, k', hcU, hk', ho', hc', e⟩, _⟩
      · rw [H.memOwn b k hk ho hc o] at h2; cases h2
      · exact absurd e (H.apart c b k' k hk' hk ho' ho hc' hc (fun e => hn (e ▸ hcU)))
  · rcases frzM_some hy with h2 | ⟨⟨c, k', hcU, hk', ho', hc', rfl⟩, _⟩
    · exact H.memNew b o y h2
    · exact .inr (H.own c k' hk' ho' hc')

/-- A block's cells, told otherwise. -/
theorem WRep.retell (H : WRep B w0 ρ al h w) {b : Nat} {k k' : Blk} (hk : hget h b = some k) (ho : k'.own = k.own) (he : k'.els ≠ [] → k.els ≠ []) (hB : BRep ρ al w b k') : WRep B w0 ρ al ((b, some k') :: h) w := by
  have at_ : ∀ {c l}, hget ((b, some k') :: h) c = some l → ∃ l', hget h c = some l' ∧ l.own = l'.own ∧ (l.els ≠ [] → l'.els ≠ []) ∧ BRep ρ al w c l := by
    intro c l hl
    rw [hget] at hl
    split at hl
    · rename_i e; subst e; injection hl with hl; subst hl; exact ⟨k, hk, ho, he, hB⟩
    · exact ⟨l, hl, rfl, id, H.blk c l hl⟩
  refine ⟨H.base, H.below, fun c l hl => ?_, fun c l hl h1 => ?_, fun c l hl h1 h2 => ?_, fun c d l m hl hm h1 h2 => ?_, H.mem, fun c l hl h1 => ?_, H.memNew, H.memOld, H.pins⟩
  · obtain ⟨_, _, _, _, g⟩ := at_ hl; exact g
  · obtain ⟨l', g1, g2, _⟩ := at_ hl; exact H.own c l' g1 (g2 ▸ h1)
  · obtain ⟨l', g1, g2, g3, _⟩ := at_ hl; exact H.old c l' g1 (g2 ▸ h1) (g3 h2)
  · obtain ⟨l', g1, g2, _⟩ := at_ hl
    obtain ⟨m', g3, g4, _⟩ := at_ hm
    exact H.apart c d l' m' g1 g3 (g2 ▸ h1) (g4 ▸ h2)
  · obtain ⟨l', g1, g2, _⟩ := at_ hl; exact H.memOwn c l' g1 (g2 ▸ h1)
end

theorem SW.wk {P : Program} {ro : Cf} {n : Nat} {c : Code} {s s' : St} {Q : Exit → St → Prop} (h : SW P ro n c s' Q) (hw : Wk ro s s') : SW P ro n c s Q := fun B w0 ρ al a w hpl H => by
  obtain ⟨ρ', al', H'⟩ := hw n B w0 ρ al a w hpl H
  exact h B w0 ρ' al' a w hpl H'

/-- What hangs on own blocks is made lasting. -/
theorem Wk.frz {ro : Cf} {s : St} (k : Nat) {q : Prop} {u : List Nat} {A : AV} (hk : AV.toD s.h 4 (tget s.t k) = some (q, u, A)) (hq : q) : Wk ro s ⟨s.nx, (k, A) :: s.t, (u.map fun b => (b, none)) ++ s.h⟩ := by
  intro n B w0 ρ al a w _ H
  obtain ⟨E, H'⟩ := H.w.freeze u
  refine ⟨ρ, ⟨al.p, frzM al.M ρ s.h u w⟩, H.size, H.defers, ?_, H', H.al⟩
  intro j
  rw [tget]
  split
  · rename_i ej
    subst ej
    exact AV.toD_rep H.w rfl hk hq (fun _ h => h) (H.t k)
  · exact (H.t j).ext E

/-- a cell with nil: a slice of a block without elements -/
theorem Wk.nilC {ro : Cf} {s : St} (b j : Nat) (T : TypeId) (sz : Nat) {k : Blk} {xs : List LV} (hk : hget s.h b = some k) (hx : k.els = [xs]) (hj : xs[j]? = some (.v (.slice none 0 0))) :
    Wk ro s ⟨s.nx + 1, s.t, (b, some { k with els := [xs.set j (.sl s.nx 0 0)] }) :: (s.nx, some ⟨true, T, sz, []⟩) :: s.h⟩ := by
  intro n B w0 ρ al a w _ H
  have hid : ¬ al s.nx := fun h => Nat.lt_irrefl _ (H.al _ h)
  obtain ⟨ρ', E, e, H'⟩ := H.w.virtual hid T sz
  have hb := H.w.blk b k hk
  have hne : s.nx ≠ b := fun h => hid (h ▸ hb.here)
  have hk' : hget ((s.nx, some ⟨true, T, sz, []⟩) :: s.h) b = some k := by rw [hget, if_neg hne]; exact hk
  have hb' := H'.blk b k hk'
  refine ⟨ρ', al1 al s.nx, H.size, H.defers, H.t.ext E, H'.retell hk' rfl (fun _ => by rw [hx]; simp) ⟨hb'.here, hb'.own, hb'.sz, ?_, ?_, ?_, hb'.room⟩, ?_⟩
  · intro e he
    simp only [List.mem_singleton] at he
    subst he
    rw [List.length_set]
    exact hb'.len xs (by rw [hx]; simp)
  · have := hb'.cap; rw [hx] at this; exact this
  · intro i j' x hc
    obtain ⟨rfl, h2⟩ := cellAt_one hc
    rw [List.getElem?_set] at h2
    split at h2
    · rename_i ej
      subst ej
      split at h2
      · injection h2 with h2
        subst h2
        obtain ⟨y, g1, g2, g3⟩ := hb'.cells 0 j _ (by rw [hx]; exact (show cellAt [xs] 0 j = _ from hj))
        refine ⟨y, g1, g2, ?_⟩
        have hv : y = .slice none 0 0 := g3
        rw [hv]
        exact ⟨.inr rfl, none, by rw [e]; rfl, by simp, fun h => by rw [e] at h; simp at h⟩
      · cases h2
    · exact hb'.cells 0 j' x (by rw [hx]; exact h2)
  · rintro c (hc | rfl)
    · have := H.al c hc; show c < s.nx + 1; omega
    · show _ < _ + 1; omega

theorem roundQ_panic {ro : Cf} {ι : Type} {inv : ι → Prop} {I : ι → St} {m : ι → Nat} {i : ι} {Q : Exit → St → Prop} {s : St} {v : Value} {b : Bool} : roundQ ro inv I m i Q (.panic [{ v := v, recovered := b }]) s = Q (.panic [{ v := v, recovered := b }]) s := rfl
theorem afterQ_panic {P : Program} {ctx : Ctx P} {ro : Cf} {n f : Nat} {r : List Itm} {Q : Exit → St → Prop} {s : St} {v : Value} {b : Bool} : afterQ P ctx ro n f r Q (.panic [{ v := v, recovered := b }]) s = Q (.panic [{ v := v, recovered := b }]) s := rfl

end Go.Proofs.YtcdbldakjepjiaaDoor
