/- The statement of ExprWithin: called with any tokens the law returns true, and the arguments read as before. No condition. -/
import Derived.Test.YthhlghoeapjagaaRows
import Derived.Test.YthhlghoeapjagaaN7
import Derived.Test.YthhlghoeapjagaaOpen
import Derived.Deep.Slices
import Derived.SizedLaws
import Derived.Deep.Fields
import Derived.ChangeSame
set_option linter.unusedVariables false
set_option linter.unusedSimpArgs false
namespace Go.Proofs.Ythhlghoeapjagaa
open Go.ChangeShapes Go.WideShapes Go.ChangeAt Go.RowKit

theorem cellsTok : Try.prog.cellsOf 52 = 4 := by kernel_rfl

theorem list4 {α : Type} {l : List α} (h : l.length = 4) : ∃ a b c d, l = [a, b, c, d] := by
  match l, h with
  | [a, b, c, d], _ => exact ⟨a, b, c, d, rfl⟩

def Tok.cells (t : Tok) : List Value := [.int .i64 t.kind, .string t.text, .int .u64 t.n, .int .i64 t.pos]

section
variable {H : Type} {enc : TypeId × Value → H} {w : World} {base : Nat} {spare : Nat → Bool} {held : Bool}

/-- one token, read off its four cells -/
theorem open_tok {n : Nat} {cs : List Value} {x : DataW H × List MemPlace} (h : DataW.trod enc Try.prog w base spare held n 52 cs = some x) :
    ∃ t : Tok, cs = t.cells ∧ t.text.size ≤ maxLen := by
  obtain ⟨xs, m, rfl, rfl, hl, hx, hf⟩ := DataW.trod_struct Try.underlying52 h
  rw [cellsTok] at hl
  obtain ⟨c0, c1, c2, c3, rfl⟩ := list4 hl
  obtain ⟨y0, y1, y2, y3, rfl⟩ := list4 (l := xs) hx
  have f0 : DataW.trod enc Try.prog w base spare held m 3 (([c0, c1, c2, c3].drop 0).take (Try.prog.cellsOf 3)) = some y0 := hf 0 _ rfl
  have f1 : DataW.trod enc Try.prog w base spare held m 9 (([c0, c1, c2, c3].drop 1).take (Try.prog.cellsOf 9)) = some y1 := hf 1 _ rfl
  have f2 : DataW.trod enc Try.prog w base spare held m 50 (([c0, c1, c2, c3].drop 2).take (Try.prog.cellsOf 50)) = some y2 := hf 2 _ rfl
  have f3 : DataW.trod enc Try.prog w base spare held m 3 (([c0, c1, c2, c3].drop 3).take (Try.prog.cellsOf 3)) = some y3 := hf 3 _ rfl
  clear hf
  rw [show Try.prog.cellsOf 3 = 1 by kernel_rfl] at f0 f3
  rw [show Try.prog.cellsOf 50 = 1 by kernel_rfl] at f2
  rw [show Try.prog.cellsOf 9 = 1 by kernel_rfl] at f1
  obtain ⟨k, e0, rfl, -⟩ := DataW.trod_int Try.underlying3 (show DataW.trod enc Try.prog w base spare held m 3 [c0] = some y0 from f0)
  obtain ⟨s, e1, rfl, z⟩ := DataW.trod_string Try.underlying9 (show DataW.trod enc Try.prog w base spare held m 9 [c1] = some y1 from f1)
  obtain ⟨q, e2, rfl, -⟩ := DataW.trod_int Try.underlying50 (show DataW.trod enc Try.prog w base spare held m 50 [c2] = some y2 from f2)
  obtain ⟨p, e3, rfl, -⟩ := DataW.trod_int Try.underlying3 (show DataW.trod enc Try.prog w base spare held m 3 [c3] = some y3 from f3)
  injection e0 with e0
  injection e1 with e1
  injection e2 with e2
  injection e3 with e3
  subst e0 e1 e2 e3
  exact ⟨⟨k, s, q, p⟩, rfl, z⟩

theorem spot_none {w : World} {a : Addr} {v : Value} (h : w.cell? a = some v) : a = ⟨a.block, a.off, none⟩ ∧ a.block < w.heap.size := by
  unfold World.cell? at h
  split at h
  · rename_i c t fr hb
    refine ⟨?_, (Array.getElem?_eq_some_iff.1 hb).1⟩
    split at h
    · cases h
    · rename_i hs
      obtain ⟨b, o, s⟩ := a
      cases s with
      | none => rfl
      | some s => exact absurd rfl hs
  · cases h

set_option maxRecDepth 100000 in
theorem open_toks {v : Value} {d : DataW H} {p : List MemPlace} {r : Reach} {b0 : Nat} (hv : Value.okWide Try.prog w r b0 49 v) (h : DataW.Trod enc Try.prog w 0 (fun _ => true) held 49 v d p) :
    ∃ (A : Option Addr) (cap : Nat) (l : List Tok), v = .slice A l.length cap ∧ l.length ≤ cap ∧ l.length ≤ maxLen ∧ (∀ t ∈ l, t.text.size ≤ maxLen) ∧
      (l ≠ [] → ∃ b off, A = some ⟨b, off, none⟩ ∧ ∀ (i j : Nat) (t : Tok) (u : Value), l[i]? = some t → t.cells[j]? = some u → w.cell? ⟨b, off + i * 4 + j, none⟩ = some u) := by
  obtain ⟨a0, l0, c0, rfl⟩ := okWide_slice Try.underlying49 hv
  obtain ⟨m, hm⟩ := h
  rcases Go.Deep.open_slice Try.underlying49 hm with ⟨e, hd⟩ | ⟨a, len, cap, mm, n, D, Pl, e, -, hl, hcm, hmm, hx, hi⟩
  · injection e with e
    injection e with e1 e2 e3
    subst e1 e2 e3
    exact ⟨none, 0, [], rfl, Nat.le_refl _, Nat.zero_le _, by simp, fun h => (h rfl).elim⟩
  · injection e with e
    injection e with e1 e2 e3
    subst e1 e2 e3
    rw [if_pos rfl] at hmm
    subst hmm
    rw [cellsTok] at hi
    have key : ∀ i, ∃ t : Tok, i < mm → (∀ j, j < 4 → w.cell? (a.add (i * 4 + j)) = t.cells[j]?) ∧ t.text.size ≤ maxLen := by
      intro i
      by_cases him : i < mm
      · obtain ⟨cs, hc, ht⟩ := hi i him
        obtain ⟨t, rfl, hw⟩ := open_tok ht
        obtain ⟨-, -, hcs⟩ := World.cells?_some hc
        exact ⟨t, fun _ => ⟨fun j hj => by rw [← hcs j hj, Go.Deep.add_add], hw⟩⟩
      · exact ⟨⟨0, ⟨#[]⟩, 0, 0⟩, fun h => absurd h him⟩
    obtain ⟨T, hT⟩ := Classical.axiomOfChoice key
    have hlen : ((List.range l0).map T).length = l0 := by simp
    have hmem : ∀ t ∈ (List.range l0).map T, ∃ i, i < l0 ∧ T i = t := fun t ht => by simpa using ht
    refine ⟨some a, mm, (List.range l0).map T, by rw [hlen], by rw [hlen]; exact hl, by rw [hlen]; omega, fun t ht => ?_, fun hne => ?_⟩
    · obtain ⟨i, hi', rfl⟩ := hmem t ht
      exact (hT i (by omega)).2
    · have hl0 : 0 < l0 := by
        rcases Nat.eq_zero_or_pos l0 with h | h
        · subst h; exact (hne rfl).elim
        · exact h
      have h0 := (hT 0 (by omega)).1 0 (by omega)
      obtain ⟨ha, hb⟩ := spot_none (h0.trans (show (T 0).cells[0]? = some _ from rfl))
      rw [show a.add (0 * 4 + 0) = a from rfl] at ha hb
      refine ⟨a.block, a.off, by rw [← ha], fun i j t u ht hu => ?_⟩
      have hil : i < l0 := by
        have := (List.getElem?_eq_some_iff.1 ht).1
        rwa [hlen] at this
      have hti : t = T i := by
        rw [List.getElem?_map, List.getElem?_range hil] at ht
        injection ht with ht
        exact ht.symm
      subst hti
      have hj : j < 4 := (List.getElem?_eq_some_iff.1 hu).1
      have c := (hT i (by omega)).1 j hj
      rw [hu] at c
      rw [← c]
      congr 1
      rw [ha]
      unfold Addr.add
      split
      · rename_i h
        simp only [Nat.add_assoc]
        congr 1
        omega
      · simp only [Nat.add_assoc]
end

theorem within_walk (A : Option Addr) (cap : Nat) (l : List Tok) (w : World) (hc : l.length ≤ cap) (hlm : l.length ≤ maxLen) (hsz : ∀ t ∈ l, t.text.size ≤ maxLen)
    (hT : l ≠ [] → ∃ b off, A = some ⟨b, off, none⟩ ∧ ∀ (i j : Nat) (t : Tok) (u : Value), l[i]? = some t → t.cells[j]? = some u → w.cell? ⟨b, off + i * 4 + j, none⟩ = some u) :
    Calls Try.prog 6 #[.slice A l.length cap] w fun e w' => e = .returned (.bool true) ∧ Below w.heap.size w w' := by
  have e : l.map tokR.enc = (l.map Tok.cells).map fun e => e.map .v := by
    rw [List.map_map]; exact List.map_congr_left fun t _ => rfl
  have hA : AsRep ρ0 (al0 fun b o => w.cell? ⟨b, o, none⟩) [(tSl 4 tokR).enc l] [.slice A l.length cap] := by
    refine ⟨?_, trivial⟩
    show DRep _ (.sd 4 (l.map tokR.enc)) _
    simp only [DRep]
    refine ⟨A, cap, by rw [List.length_map], by rw [List.length_map]; exact hc, fun hne => ?_⟩
    obtain ⟨b, off, rfl, hcl⟩ := hT (fun h => by subst h; exact hne rfl)
    refine ⟨b, off, rfl, ?_⟩
    rw [e]
    refine dssAt_of (fun x hx => ?_) fun i j x u hx hu => ?_
    · obtain ⟨t, _, rfl⟩ := List.mem_map.1 hx; rfl
    · rw [List.getElem?_map, Option.map_eq_some_iff] at hx
      obtain ⟨t, ht, rfl⟩ := hx
      refine ⟨hcl i j t u ht hu, ?_⟩
      match j, hu with
      | 0, hu => injection hu with hu; subst hu; rfl
      | 1, hu => injection hu with hu; subst hu; rfl
      | 2, hu => injection hu with hu; subst hu; rfl
      | 3, hu => injection hu with hu; subst hu; rfl
  exact law_calls Try.func6 rfl hA (by rw [Try.ntmps6]; show 1 ≤ 75; decide) (within_sw l hsz hlm)

set_option maxRecDepth 100000 in
theorem lawWithin.lifted (os : Os) (started : os.Started) (H : Type) (enc : TypeId × Value → H) :
    ReturnsInHanded {} Try.checked os 6 .any (Rows.exprWithinSpec.pre6 enc Try.prog Try.f6 Rows.exprWithinRow.domain false) (Rows.exprWithinSpec.post enc Try.prog Try.f6 false true false false) := by
  refine returnsInHanded_of_change_sized (C := Try.checked) lawOwn started (by kernel_rfl) Try.func6
    (ChangeSpec.witness6 (enc := enc) (C := Try.checked) false ⟨#[], #[.slice none 0 0], []⟩ 8 (by kernel_rfl) (by kernel_rfl) (by kernel_rfl) (by kernel_rfl)) ?_
  intro W base args ds gs before hval0 hW hcnd hsz0 _
  have hval : ∀ (j : Nat) t v, Try.f6.params[j]? = some t → args[j]? = some v → Value.okWide Try.prog W .any base t v := hval0
  have hW' := hW
  obtain ⟨p, q, hA0, hV, rfl, hfz, hnd⟩ := hW
  have hA : DataW.TrodAll enc Try.prog W 0 (fun _ => true) true Try.f6.params.toList args.toList ds p := hA0
  rw [Try.params6] at hA hval
  obtain ⟨v0, vs0, d0, ds0, p0, q0, hargs, rfl, rfl, h0, r0⟩ := trodAll_cons hA
  obtain ⟨rfl, rfl, rfl⟩ := trodAll_nil r0
  obtain rfl : args = #[v0] := by cases args; simp_all
  obtain ⟨rfl, rfl⟩ := trodVars_none hV
  have k0 := h0
  have lt0 : ∀ x ∈ p0, x.block < W.heap.size := by obtain ⟨m, hm⟩ := k0; exact DataW.trod_lt m _ _ _ hm
  obtain ⟨A, cap, l, rfl, hc, hl, hz, hT⟩ := open_toks (hval 0 49 v0 rfl rfl) h0
  clear hA0 hval0 hsz0
  refine (within_walk A cap l W hc hl hz hT).mono fun e W' ⟨he, bel⟩ => ?_
  subst he
  exact ⟨_, rfl, _, _, _, [], _, [], hW', trodAll_mk1 (shut_bool Try.underlying4 _), (trodAll_cons_mk (Below.trod lawLaid (by kernel_rfl) (of_decide_eq_true (by kernel_rfl)) k0 bel lt0) trodAll_mk0), rfl, bel.frame _, fun h => by cases h⟩

theorem within_holds : Rows.ExprWithinSaid :=
  OpenClaim.holds_of_wide 6 Try.f6 rfl rfl rfl rfl rfl rfl rfl ⟨rfl, rfl, rfl, rfl, rfl⟩ rfl rfl rfl rfl rfl (by kernel_rfl) Try.func6 (by kernel_rfl)
    (of_decide_eq_true (by kernel_rfl)) (by unfold Func.isWrapper; first | (rw [if_pos (by decide +kernel)]; kernel_rfl) | (rw [if_neg (by decide +kernel)]; exact ⟨rfl, rfl⟩))
    (fun os started H enc _ => lawWithin.lifted os started H enc)

#print axioms within_holds
end Go.Proofs.Ythhlghoeapjagaa
