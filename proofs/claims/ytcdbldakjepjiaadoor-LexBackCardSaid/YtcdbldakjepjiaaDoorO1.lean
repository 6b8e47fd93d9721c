/- Arguments: tokens, their sizes. -/
import Derived.Test.YtcdbldakjepjiaaDoorLC
import Derived.Test.YtcdbldakjepjiaaDoorLP
import Derived.ProofKit
import Derived.OpenShut
import Derived.SizedLaws
import Derived.Deep.Slices
import Derived.Deep.Fields
set_option linter.unusedVariables false
set_option linter.unusedSimpArgs false
namespace Go.Proofs.YtcdbldakjepjiaaDoor
open Go.ChangeShapes Go.WideShapes Go.ChangeAt Go.RowKit

def cellsT (t : Tok) : List Value := [.int .i64 t.kind, .string t.text, .int .u64 t.n, .int .i64 t.pos]
theorem cellsTok : Tryd.prog.cellsOf 30 = 4 := by kernel_rfl
theorem spotN {w : World} {a : Addr} {v : Value} (h : w.cell? a = some v) : a = ⟨a.block, a.off, none⟩ ∧ a.block < w.heap.size := by
  unfold World.cell? at h
  split at h
  · rename_i c t fr hb
    refine ⟨?_, (Array.getElem?_eq_some_iff.1 hb).1⟩
    split at h
    · cases h
    · rename_i hs
      obtain ⟨b, o, s⟩ := a
      cases s with
      | none => rfl
      | some s => exact absurd rfl hs
  · cases h
theorem list4 {α : Type} {l : List α} (h : l.length = 4) : ∃ a b c d, l = [a, b, c, d] := by
  match l, h with
  | [a, b, c, d], _ => exact ⟨a, b, c, d, rfl⟩

/-- all weights of a datum are within the form's reach -/
def inReach {H : Type} (P : Program) (t : TypeId) (d : DataW H) : Prop := ∀ n ∈ d.weights P t, n ≤ reachBytes
theorem reach_at {H : Type} {P : Program} {ts : List TypeId} {ds : List (DataW H)} (h : (DataW.weightsEach P ts ds).all (· ≤ reachBytes) = true) (j : Nat) {t : TypeId} {d : DataW H} (ht : ts[j]? = some t) (hd : ds[j]? = some d) : inReach P t d := fun n hn => by
  have := List.all_eq_true.1 h n (DataW.weights_mem_each ht hd n hn)
  simpa using this
theorem weights_all {H : Type} {P : Program} {e : TypeId} : ∀ {ds : List (DataW H)} {d : DataW H}, d ∈ ds → ∀ n ∈ d.weights P e, n ∈ DataW.weightsAll P e ds
  | x :: r, d, hd, n, hn => by
    simp only [DataW.weightsAll, List.mem_append]
    rcases List.mem_cons.1 hd with rfl | hd
    · exact .inl hn
    · exact .inr (weights_all hd n hn)
theorem reach_elem {H : Type} {P : Program} {t e : TypeId} (hu : P.underlying t = some (.slice e)) {elems spare : List (DataW H)} (h : inReach P t (.slice elems spare)) {d : DataW H} (hd : d ∈ elems) : inReach P e d := fun n hn =>
  h n (by simp only [DataW.weights, hu, List.mem_cons, List.mem_append]; exact .inr (.inl (weights_all hd n hn)))

section
variable {H : Type} {enc : TypeId × Value → H} {w : World} {base : Nat} {spare : Nat → Bool} {held : Bool}

/-- one token, read off its four cells -/
theorem open_tokD {n : Nat} {cs : List Value} {D : DataW H} {Pl : List MemPlace} (h : DataW.trod enc Tryd.prog w base spare held n 30 cs = some (D, Pl)) (hr : inReach Tryd.prog 30 D) :
    ∃ t : Tok, cs = cellsT t ∧ smallT t := by
  obtain ⟨xs, m, rfl, hD, hl, hx, hf⟩ := DataW.trod_struct Tryd.underlying30 h
  rw [cellsTok] at hl
  obtain ⟨c0, c1, c2, c3, rfl⟩ := list4 hl
  obtain ⟨y0, y1, y2, y3, rfl⟩ := list4 (l := xs) hx
  have f0 : DataW.trod enc Tryd.prog w base spare held m 3 (([c0, c1, c2, c3].drop 0).take (Tryd.prog.cellsOf 3)) = some y0 := hf 0 _ rfl
  have f1 : DataW.trod enc Tryd.prog w base spare held m 9 (([c0, c1, c2, c3].drop 1).take (Tryd.prog.cellsOf 9)) = some y1 := hf 1 _ rfl
  have f2 : DataW.trod enc Tryd.prog w base spare held m 28 (([c0, c1, c2, c3].drop 2).take (Tryd.prog.cellsOf 28)) = some y2 := hf 2 _ rfl
  have f3 : DataW.trod enc Tryd.prog w base spare held m 3 (([c0, c1, c2, c3].drop 3).take (Tryd.prog.cellsOf 3)) = some y3 := hf 3 _ rfl
  clear hf
  rw [show Tryd.prog.cellsOf 3 = 1 by kernel_rfl] at f0 f3
  rw [show Tryd.prog.cellsOf 28 = 1 by kernel_rfl] at f2
  rw [show Tryd.prog.cellsOf 9 = 1 by kernel_rfl] at f1
  obtain ⟨k, e0, rfl, -⟩ := DataW.trod_int Tryd.underlying3 (show DataW.trod enc Tryd.prog w base spare held m 3 [c0] = some y0 from f0)
  obtain ⟨s, e1, rfl, z⟩ := DataW.trod_string Tryd.underlying9 (show DataW.trod enc Tryd.prog w base spare held m 9 [c1] = some y1 from f1)
  obtain ⟨q, e2, rfl, wq⟩ := DataW.trod_int Tryd.underlying28 (show DataW.trod enc Tryd.prog w base spare held m 28 [c2] = some y2 from f2)
  obtain ⟨p, e3, rfl, -⟩ := DataW.trod_int Tryd.underlying3 (show DataW.trod enc Tryd.prog w base spare held m 3 [c3] = some y3 from f3)
  injection e0 with e0
  injection e1 with e1
  injection e2 with e2
  injection e3 with e3
  subst e0 e1 e2 e3
  have wq : (Lit.int IntKind.u64 q).wf = true := wq
  simp [Lit.wf] at wq
  have m1 : IntKind.u64.min = 0 := rfl
  have m2 : IntKind.u64.max = 18446744073709551615 := rfl
  have e := (Prod.ext_iff.1 hD).1
  simp only at e
  have hs : s.data.toList.length ≤ reachBytes := hr _ (by
    rw [e]
    simp [DataW.weights, Tryd.underlying30, DataW.weightsEach])
  have hs2 : s.size ≤ reachBytes := by simpa using hs
  exact ⟨⟨k, s, q, p⟩, rfl, hs2, by simp only; omega, by simp only; omega⟩

set_option maxRecDepth 100000 in
theorem open_toksD {v : Value} {d : DataW H} {p : List MemPlace} {r : Reach} {b0 : Nat} (hv : Value.okWide Tryd.prog w r b0 23 v) (h : DataW.Trod enc Tryd.prog w 0 (fun _ => true) held 23 v d p) (hr : inReach Tryd.prog 23 d) :
    ∃ (A : Option Addr) (cap : Nat) (l : List Tok), v = .slice A l.length cap ∧ l.length ≤ cap ∧ (∀ t ∈ l, smallT t) ∧
      (l ≠ [] → ∃ b off, A = some ⟨b, off, none⟩ ∧ ∀ (i j : Nat) (t : Tok) (u : Value), l[i]? = some t → (cellsT t)[j]? = some u → w.cell? ⟨b, off + i * 4 + j, none⟩ = some u) := by
  obtain ⟨a0, l0, c0, rfl⟩ := okWide_slice Tryd.underlying23 hv
  obtain ⟨m, hm⟩ := h
  rcases Go.Deep.open_slice Tryd.underlying23 hm with ⟨e, hd⟩ | ⟨a, len, cap, mm, n, D, Pl, e, -, hl, hcm, hmm, hx, hi⟩
  · injection e with e
    injection e with e1 e2 e3
    subst e1 e2 e3
    exact ⟨none, 0, [], rfl, Nat.le_refl _, by simp, fun h => (h rfl).elim⟩
  · injection e with e
    injection e with e1 e2 e3
    subst e1 e2 e3
    rw [if_pos rfl] at hmm
    subst hmm
    rw [cellsTok] at hi
    have hx1 := (Prod.ext_iff.1 hx).1
    simp only at hx1
    subst hx1
    have key : ∀ i, ∃ t : Tok, i < l0 → (∀ j, j < 4 → w.cell? (a.add (i * 4 + j)) = (cellsT t)[j]?) ∧ smallT t := by
      intro i
      by_cases him : i < l0
      · obtain ⟨cs, hc, ht⟩ := hi i (by omega)
        obtain ⟨t, rfl, hw⟩ := open_tokD ht (reach_elem Tryd.underlying23 hr (List.mem_map.2 ⟨i, List.mem_range.2 him, rfl⟩))
        obtain ⟨-, -, hcs⟩ := World.cells?_some hc
        exact ⟨t, fun _ => ⟨fun j hj => by rw [← hcs j hj, Go.Deep.add_add], hw⟩⟩
      · exact ⟨⟨0, ⟨#[]⟩, 0, 0⟩, fun h => absurd h him⟩
    obtain ⟨T, hT⟩ := Classical.axiomOfChoice key
    have hlen : ((List.range l0).map T).length = l0 := by simp
    have hmem : ∀ t ∈ (List.range l0).map T, ∃ i, i < l0 ∧ T i = t := fun t ht => by simpa using ht
    refine ⟨some a, mm, (List.range l0).map T, by rw [hlen], by rw [hlen]; exact hl, fun t ht => ?_, fun hne => ?_⟩
    · obtain ⟨i, hi', rfl⟩ := hmem t ht
      exact (hT i (by omega)).2
    · have hl0 : 0 < l0 := by
        rcases Nat.eq_zero_or_pos l0 with h | h
        · subst h; exact (hne rfl).elim
        · exact h
      have h0 := (hT 0 (by omega)).1 0 (by omega)
      obtain ⟨ha, hb⟩ := spotN (h0.trans (show (cellsT (T 0))[0]? = some _ from rfl))
      rw [show a.add (0 * 4 + 0) = a from rfl] at ha hb
      refine ⟨a.block, a.off, by rw [← ha], fun i j t u ht hu => ?_⟩
      have hil : i < l0 := by
        have := (List.getElem?_eq_some_iff.1 ht).1
        rwa [hlen] at this
      have hti : t = T i := by
        rw [List.getElem?_map, List.getElem?_range hil] at ht
        injection ht with ht
        exact ht.symm
      subst hti
      have hj : j < 4 := (List.getElem?_eq_some_iff.1 hu).1
      have c := (hT i (by omega)).1 j hj
      rw [hu] at c
      rw [← c]
      congr 1
      rw [ha]
      unfold Addr.add
      split
      · rename_i h
        simp only [Nat.add_assoc]
        congr 1
        omega
      · simp only [Nat.add_assoc]
end

theorem toks_rep {A : Option Addr} {cap : Nat} {l : List Tok} {w : World} (hc : l.length ≤ cap)
    (hT : l ≠ [] → ∃ b off, A = some ⟨b, off, none⟩ ∧ ∀ (i j : Nat) (t : Tok) (u : Value), l[i]? = some t → (cellsT t)[j]? = some u → w.cell? ⟨b, off + i * 4 + j, none⟩ = some u) :
    ARep ρ0 (al0 fun b o => w.cell? ⟨b, o, none⟩) (tToks.enc l) (.slice A l.length cap) := by
  have e : l.map tokR.enc = (l.map cellsT).map fun e => e.map .v := by
    rw [List.map_map]; exact List.map_congr_left fun t _ => rfl
  show DRep _ (.sd 4 (l.map tokR.enc)) _
  simp only [DRep]
  refine ⟨A, cap, by rw [List.length_map], by rw [List.length_map]; exact hc, fun hne => ?_⟩
  obtain ⟨b, off, rfl, hcl⟩ := hT (fun h => by subst h; exact hne rfl)
  refine ⟨b, off, rfl, ?_⟩
  rw [e]
  refine dssAt_of (fun x hx => ?_) fun i j x u hx hu => ?_
  · obtain ⟨t, _, rfl⟩ := List.mem_map.1 hx; rfl
  · rw [List.getElem?_map, Option.map_eq_some_iff] at hx
    obtain ⟨t, ht, rfl⟩ := hx
    refine ⟨hcl i j t u ht hu, ?_⟩
    match j, hu with
    | 0, hu => injection hu with hu; subst hu; rfl
    | 1, hu => injection hu with hu; subst hu; rfl
    | 2, hu => injection hu with hu; subst hu; rfl
    | 3, hu => injection hu with hu; subst hu; rfl

end Go.Proofs.YtcdbldakjepjiaaDoor
