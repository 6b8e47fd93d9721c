/- Names: a number's text. -/
import Derived.Test.YtpjlafmhoifkmaaGreatChecked
import Derived.Test.YtpjlafmhoifkmaaGreatA1
import Derived.WalkKit
import Derived.WalkSpells
import Derived.WalkLawsBesides
import Derived.Lib.SlBytesRow
set_option linter.unusedVariables false
set_option linter.unusedSimpArgs false
namespace Go.Proofs.YtpjlafmhoifkmaaGreat
open Go.RowKit

theorem conv_bytes {P : Program} {src dst e : TypeId} (h1 : P.underlying src = some (.slice e)) (h2 : P.underlying e = some (.int .u8)) (h3 : P.underlying dst = some .string) {w : World} {b off : Nat} (zs : List Int) (hr : ∀ z ∈ zs, 0 ≤ z ∧ z ≤ 255) (hc : ∀ (i : Nat) (z : Int), zs[i]? = some z → w.cell? ⟨b, off + i, none⟩ = some (.int .u8 z)) {m : Nat} (hm : m = zs.length) (cap : Nat) :
    (convert src dst (.slice (some ⟨b, off, none⟩) m cap)).run P w = .ok (.string (ofBytes zs)) w := by
  have hs : (ofBytes zs).size = zs.length := ofBytes_size zs
  rw [hm, ← hs]
  refine Lib.run_convert_whole _ _ e _ h1 h2 h3 _ _ _ (fun i hi => ?_) cap
  have hi' : i < zs.length := by rw [hs] at hi; exact hi
  have := hr _ (List.getElem_mem hi')
  rw [hc i zs[i] (List.getElem?_eq_getElem hi')]
  have e1 : (ofBytes zs)[i] = UInt8.ofNat zs[i].toNat := by
    change (ofBytes zs).data[i]'(by simpa [ofBytes] using hi') = _
    simp [ofBytes]
  rw [e1]
  simp
  omega

set_option maxRecDepth 100000 in
set_option maxHeartbeats 1000000 in
theorem text_any (n : Int) (w : World) (h : 0 ≤ n ∧ n < 1000) :
    Calls Tryz.prog 39 #[.int .i64 n] w fun e w' => e = .returned (.string (textF n)) ∧ Below w.heap.size w w' := by
  obtain ⟨h0, h1⟩ := h
  have d1 : n.tdiv 100 = n / 100 := Int.tdiv_eq_ediv_of_nonneg h0
  have d2 : n.tdiv 10 = n / 10 := Int.tdiv_eq_ediv_of_nonneg h0
  have d3 : n.tmod 10 = n % 10 := Int.tmod_eq_emod_of_nonneg h0
  have d4 : (n / 10).tmod 10 = n / 10 % 10 := Int.tmod_eq_emod_of_nonneg (by omega)
  have HC := Lib.hid fun (zs : List Int) (o : Obj) (off m cap : Nat) (hr : ∀ z ∈ zs, 0 ≤ z ∧ z ≤ 255) (hc : ∀ (i : Nat) (z : Int), zs[i]? = some z → (w.alloc o).cell? ⟨w.heap.size, off + i, none⟩ = some (.int .u8 z)) (hm : m = zs.length) => conv_bytes (P := Tryz.prog) Tryz.underlying89 Tryz.underlying5 Tryz.underlying9 (w := w.alloc o) (b := w.heap.size) (off := off) zs hr hc hm cap
  have hcell : ∀ (a b c : Value) (t : TypeId) (i : Nat) (v : Value), [a, b, c][i]? = some v → (w.alloc (.cells #[a, b, c] t)).cell? ⟨w.heap.size, i, none⟩ = some v := by
    intro a b c t i v hv
    have hb : (w.alloc (.cells #[a, b, c] t)).heap[w.heap.size]? = some (.cells #[a, b, c] t) := heap_alloc_new w _
    rw [cell_of_row _ _ _ _ _ _ hb]
    simpa using hv
  have HCC := Lib.hid hcell
  clear hcell
  go_enter Tryz.func39, Tryz.ntmps39
  go_wp2_with fail
  · have h2 : n < 10 := by assumption
    have ht : textF n = ofBytes [48 + n] := by rw [textF, if_pos h2]
    rw [HC.out [48 + n] _ 2 1 1 (by simp; omega) (fun i z hz => HCC.out _ _ _ _ _ _ (by
      cases i with
      | zero => simp at hz; subst hz; simp; omega
      | succ i => simp at hz)) rfl]
    go_wp2_with fail
    go_ret
    rw [ht]
    exact ⟨rfl, (by ((repeat (first | with_reducible refine Below.drew ?_ | (with_reducible refine Below.alloc ?_ ?_ _; rotate_left; (focus (first | (simp; done) | (simp; omega) | omega))) | (with_reducible refine Below.setCell ?_ ?_ _; rotate_left; (focus (first | (simp; done) | (simp; omega) | omega))))); (first | with_reducible exact Below.refl _ _ | with_reducible assumption)))⟩
  · have h2 : 10 ≤ n := by assumption
    have h3 : n < 100 := by assumption
    have ht : textF n = ofBytes [48 + n / 10, 48 + n % 10] := by rw [textF, if_neg (by omega), if_pos h3]
    rw [HC.out [48 + n / 10, 48 + n % 10] _ 1 2 2 (by simp; omega) (fun i z hz => HCC.out _ _ _ _ _ _ (by
      match i with
      | 0 => simp at hz; subst hz; simp; omega
      | 1 => simp at hz; subst hz; simp
      | i + 2 => simp at hz)) rfl]
    go_wp2_with fail
    go_ret
    rw [ht]
    exact ⟨rfl, (by ((repeat (first | with_reducible refine Below.drew ?_ | (with_reducible refine Below.alloc ?_ ?_ _; rotate_left; (focus (first | (simp; done) | (simp; omega) | omega))) | (with_reducible refine Below.setCell ?_ ?_ _; rotate_left; (focus (first | (simp; done) | (simp; omega) | omega))))); (first | with_reducible exact Below.refl _ _ | with_reducible assumption)))⟩
  · have h2 : 100 ≤ n := by assumption
    have ht : textF n = ofBytes [48 + n / 100, 48 + n / 10 % 10, 48 + n % 10] := by rw [textF, if_neg (by omega), if_neg (by omega)]
    rw [HC.out [48 + n / 100, 48 + n / 10 % 10, 48 + n % 10] _ 0 3 3 (by simp; omega) (fun i z hz => HCC.out _ _ _ _ _ _ (by
      match i with
      | 0 => simp at hz; subst hz; simp
      | 1 => simp at hz; subst hz; simp
      | 2 => simp at hz; subst hz; simp
      | i + 3 => simp at hz)) rfl]
    go_wp2_with fail
    go_ret
    rw [ht]
    exact ⟨rfl, (by ((repeat (first | with_reducible refine Below.drew ?_ | (with_reducible refine Below.alloc ?_ ?_ _; rotate_left; (focus (first | (simp; done) | (simp; omega) | omega))) | (with_reducible refine Below.setCell ?_ ?_ _; rotate_left; (focus (first | (simp; done) | (simp; omega) | omega))))); (first | with_reducible exact Below.refl _ _ | with_reducible assumption)))⟩

end Go.Proofs.YtpjlafmhoifkmaaGreat
