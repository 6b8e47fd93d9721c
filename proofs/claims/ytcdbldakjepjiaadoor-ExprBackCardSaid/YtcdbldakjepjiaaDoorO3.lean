/- Arguments: terms. -/
import Derived.Test.YtcdbldakjepjiaaDoorXk
import Derived.ProofKit
import Derived.OpenShut
import Derived.SizedLaws
import Derived.Deep.Slices
import Derived.Deep.Fields
set_option linter.unusedVariables false
set_option linter.unusedSimpArgs false
namespace Go.Proofs.YtcdbldakjepjiaaDoor
open Go.ChangeShapes Go.WideShapes Go.ChangeAt Go.RowKit
open Ex (okT)

def cellsM (t : Term) : List Value := [.int .i64 t.kind, .int .i64 t.n, .string t.sym]
theorem cellsTerm : Tryd.prog.cellsOf 91 = 3 := by kernel_rfl
theorem spotM {w : World} {a : Addr} {v : Value} (h : w.cell? a = some v) : a = ⟨a.block, a.off, none⟩ ∧ a.block < w.heap.size := by
  unfold World.cell? at h
  split at h
  · rename_i c t fr hb
    refine ⟨?_, (Array.getElem?_eq_some_iff.1 hb).1⟩
    split at h
    · cases h
    · rename_i hs
      obtain ⟨b, o, s⟩ := a
      cases s with
      | none => rfl
      | some s => exact absurd rfl hs
  · cases h
theorem list3 {α : Type} {l : List α} (h : l.length = 3) : ∃ a b c, l = [a, b, c] := by
  match l, h with
  | [a, b, c], _ => exact ⟨a, b, c, rfl⟩

section
variable {H : Type} {enc : TypeId × Value → H} {w : World} {base : Nat} {spare : Nat → Bool} {held : Bool}
theorem open_termD {n : Nat} {cs : List Value} {D : DataW H} {Pl : List MemPlace} (h : DataW.trod enc Tryd.prog w base spare held n 91 cs = some (D, Pl)) :
    ∃ t : Term, cs = cellsM t ∧ okT t := by
  obtain ⟨xs, m, rfl, hD, hl, hx, hf⟩ := DataW.trod_struct Tryd.underlying91 h
  rw [cellsTerm] at hl
  obtain ⟨c0, c1, c2, rfl⟩ := list3 hl
  obtain ⟨y0, y1, y2, rfl⟩ := list3 (l := xs) hx
  have f0 : DataW.trod enc Tryd.prog w base spare held m 3 (([c0, c1, c2].drop 0).take (Tryd.prog.cellsOf 3)) = some y0 := hf 0 _ rfl
  have f1 : DataW.trod enc Tryd.prog w base spare held m 2 (([c0, c1, c2].drop 1).take (Tryd.prog.cellsOf 2)) = some y1 := hf 1 _ rfl
  have f2 : DataW.trod enc Tryd.prog w base spare held m 9 (([c0, c1, c2].drop 2).take (Tryd.prog.cellsOf 9)) = some y2 := hf 2 _ rfl
  clear hf
  rw [show Tryd.prog.cellsOf 3 = 1 by kernel_rfl] at f0
  rw [show Tryd.prog.cellsOf 2 = 1 by kernel_rfl] at f1
  rw [show Tryd.prog.cellsOf 9 = 1 by kernel_rfl] at f2
  obtain ⟨k, e0, rfl, -⟩ := DataW.trod_int Tryd.underlying3 (show DataW.trod enc Tryd.prog w base spare held m 3 [c0] = some y0 from f0)
  obtain ⟨q, e1, rfl, wq⟩ := DataW.trod_int Tryd.underlying2 (show DataW.trod enc Tryd.prog w base spare held m 2 [c1] = some y1 from f1)
  obtain ⟨s, e2, rfl, z⟩ := DataW.trod_string Tryd.underlying9 (show DataW.trod enc Tryd.prog w base spare held m 9 [c2] = some y2 from f2)
  injection e0 with e0
  injection e1 with e1
  injection e2 with e2
  subst e0 e1 e2
  have wq : (Lit.int IntKind.i64 q).wf = true := wq
  simp [Lit.wf] at wq
  have m1 : IntKind.i64.min = -9223372036854775808 := rfl
  have m2 : IntKind.i64.max = 9223372036854775807 := rfl
  exact ⟨⟨k, q, s⟩, rfl, z, by simp only; omega, by simp only; omega⟩

set_option maxRecDepth 100000 in
theorem open_termsD {v : Value} {d : DataW H} {p : List MemPlace} {r : Reach} {b0 : Nat} (hv : Value.okWide Tryd.prog w r b0 53 v) (h : DataW.Trod enc Tryd.prog w 0 (fun _ => true) held 53 v d p) :
    ∃ (A : Option Addr) (cap : Nat) (l : List Term), v = .slice A l.length cap ∧ l.length ≤ cap ∧ (l.length ≤ maxLen ∧ ∀ t ∈ l, okT t) ∧
      (l ≠ [] → ∃ b off, A = some ⟨b, off, none⟩ ∧ ∀ (i j : Nat) (t : Term) (u : Value), l[i]? = some t → (cellsM t)[j]? = some u → w.cell? ⟨b, off + i * 3 + j, none⟩ = some u) := by
  obtain ⟨a0, l0, c0, rfl⟩ := okWide_slice Tryd.underlying53 hv
  obtain ⟨m, hm⟩ := h
  rcases Go.Deep.open_slice Tryd.underlying53 hm with ⟨e, hd⟩ | ⟨a, len, cap, mm, n, D, Pl, e, -, hl, hcm, hmm, hx, hi⟩
  · injection e with e
    injection e with e1 e2 e3
    subst e1 e2 e3
    exact ⟨none, 0, [], rfl, Nat.le_refl _, ⟨Nat.zero_le _, by simp⟩, fun h => (h rfl).elim⟩
  · injection e with e
    injection e with e1 e2 e3
    subst e1 e2 e3
    rw [if_pos rfl] at hmm
    subst hmm
    rw [cellsTerm] at hi
    have key : ∀ i, ∃ t : Term, i < l0 → (∀ j, j < 3 → w.cell? (a.add (i * 3 + j)) = (cellsM t)[j]?) ∧ okT t := by
      intro i
      by_cases him : i < l0
      · obtain ⟨cs, hc, ht⟩ := hi i (by omega)
        obtain ⟨t, rfl, hw⟩ := open_termD ht
        obtain ⟨-, -, hcs⟩ := World.cells?_some hc
        exact ⟨t, fun _ => ⟨fun j hj => by rw [← hcs j hj, Go.Deep.add_add], hw⟩⟩
      · exact ⟨⟨0, 0, ⟨#[]⟩⟩, fun h => absurd h him⟩
    obtain ⟨T, hT⟩ := Classical.axiomOfChoice key
    have hlen : ((List.range l0).map T).length = l0 := by simp
    have hmem : ∀ t ∈ (List.range l0).map T, ∃ i, i < l0 ∧ T i = t := fun t ht => by simpa using ht
    refine ⟨some a, mm, (List.range l0).map T, by rw [hlen], by rw [hlen]; exact hl, ⟨by rw [hlen]; omega, fun t ht => ?_⟩, fun hne => ?_⟩
    · obtain ⟨i, hi', rfl⟩ := hmem t ht
      exact (hT i (by omega)).2
    · have hl0 : 0 < l0 := by
        rcases Nat.eq_zero_or_pos l0 with h | h
        · subst h; exact (hne rfl).elim
        · exact h
      have h0 := (hT 0 (by omega)).1 0 (by omega)
      obtain ⟨ha, hb⟩ := spotM (h0.trans (show (cellsM (T 0))[0]? = some _ from rfl))
      rw [show a.add (0 * 3 + 0) = a from rfl] at ha hb
      refine ⟨a.block, a.off, by rw [← ha], fun i j t u ht hu => ?_⟩
      have hil : i < l0 := by
        have := (List.getElem?_eq_some_iff.1 ht).1
        rwa [hlen] at this
      have hti : t = T i := by
        rw [List.getElem?_map, List.getElem?_range hil] at ht
        injection ht with ht
        exact ht.symm
      subst hti
      have hj : j < 3 := (List.getElem?_eq_some_iff.1 hu).1
      have c := (hT i (by omega)).1 j hj
      rw [hu] at c
      rw [← c]
      congr 1
      rw [ha]
      unfold Addr.add
      split
      · rename_i h
        simp only [Nat.add_assoc]
        congr 1
        omega
      · simp only [Nat.add_assoc]
end

theorem terms_rep {A : Option Addr} {cap : Nat} {l : List Term} {w : World} (hc : l.length ≤ cap)
    (hT : l ≠ [] → ∃ b off, A = some ⟨b, off, none⟩ ∧ ∀ (i j : Nat) (t : Term) (u : Value), l[i]? = some t → (cellsM t)[j]? = some u → w.cell? ⟨b, off + i * 3 + j, none⟩ = some u) :
    ARep ρ0 (al0 fun b o => w.cell? ⟨b, o, none⟩) ((tSl 3 Ex.termR).enc l) (.slice A l.length cap) := by
  have e : l.map Ex.termR.enc = (l.map cellsM).map fun e => e.map .v := by
    rw [List.map_map]; exact List.map_congr_left fun t _ => rfl
  show DRep _ (.sd 3 (l.map Ex.termR.enc)) _
  simp only [DRep]
  refine ⟨A, cap, by rw [List.length_map], by rw [List.length_map]; exact hc, fun hne => ?_⟩
  obtain ⟨b, off, rfl, hcl⟩ := hT (fun h => by subst h; exact hne rfl)
  refine ⟨b, off, rfl, ?_⟩
  rw [e]
  refine dssAt_of (fun x hx => ?_) fun i j x u hx hu => ?_
  · obtain ⟨t, _, rfl⟩ := List.mem_map.1 hx; rfl
  · rw [List.getElem?_map, Option.map_eq_some_iff] at hx
    obtain ⟨t, ht, rfl⟩ := hx
    refine ⟨hcl i j t u ht hu, ?_⟩
    match j, hu with
    | 0, hu => injection hu with hu; subst hu; rfl
    | 1, hu => injection hu with hu; subst hu; rfl
    | 2, hu => injection hu with hu; subst hu; rfl

end Go.Proofs.YtcdbldakjepjiaaDoor
