/- Contract of decimal of package expr. -/
import Derived.Test.YthhlghoeapjagaaLib
import Derived.Test.YthhlghoeapjagaaChecked
import Derived.Test.YthhlghoeapjagaaPlain6
import Derived.WalkKit
import Derived.WalkSpells
import Derived.WalkLawsBesides
import Derived.Lib.SlBytesRow
set_option linter.unusedVariables false
set_option linter.unusedSimpArgs false
namespace Go.Proofs.Ythhlghoeapjagaa
open Go.RowKit

theorem set_some {w : World} {a b : Addr} {v : Value} (h : ∃ u, w.cell? b = some u) : ∃ u, (w.setCell a v).cell? b = some u := by
  obtain ⟨u, hu⟩ := h
  by_cases e : a = b
  · subst e; exact ⟨v, World.cell?_setCell_same _ _ _ hu⟩
  · exact ⟨u, by rw [World.cell?_setCell_other _ _ _ _ e]; exact hu⟩

theorem ten_cells {w : World} {i : Nat} (h : i < 20) {t : TypeId} {v : Value} : ∃ u, (w.alloc (.cells #[v, v, v, v, v, v, v, v, v, v, v, v, v, v, v, v, v, v, v, v] t)).cell? ⟨w.heap.size, i, none⟩ = some u := by
  have hb : (w.alloc (.cells #[v, v, v, v, v, v, v, v, v, v, v, v, v, v, v, v, v, v, v, v] t)).heap[w.heap.size]? = some (.cells #[v, v, v, v, v, v, v, v, v, v, v, v, v, v, v, v, v, v, v, v] t) := heap_alloc_new w _
  rw [cell_of_row _ _ _ _ _ _ hb]
  exact ⟨_, Array.getElem?_eq_getElem (by simpa using h)⟩

set_option maxRecDepth 100000 in
set_option maxHeartbeats 1000000 in
theorem decimal_any (N : Nat) (w : World) (hN : N < 18446744073709551616) :
    Calls Try.prog 34 #[.int .u64 N] w fun e w' => e = .returned (.string (decS N)) ∧ Below w.heap.size w w' := by
  have hN' := Lib.hid hN
  go_enter Try.func34, Try.ntmps34
  go_wp2_with fail
  go_loopw [0, 4] (fun nv av wr => ∃ (p m : Nat) (tail : List UInt8), nv = .int .u64 m ∧ av = .int .i64 p ∧ p + tail.length = 20 ∧ Hid (decG 20 N = decG p m ++ tail) ∧ Hid (m < 10 ^ p) ∧ m ≤ N ∧ (0 < p) ∧ Hid (∀ i c, tail[i]? = some c → wr.cell? ⟨w.heap.size, p + i, none⟩ = some (.int .u8 c.toNat)) ∧ Hid (∀ i, i < 20 → ∃ v, wr.cell? ⟨w.heap.size, i, none⟩ = some v) ∧ (∀ i, wr.frozen? ⟨w.heap.size, i, none⟩ = false) ∧ Below w.heap.size w wr ∧ w.heap.size < wr.heap.size) (fun nv _ _ => (intOf nv).toNat)
  case atStart =>
    exact ⟨20, N, [], rfl, rfl, rfl, show _ = _ by simp, show N < 10 ^ 20 by omega, Nat.le_refl _, by omega, show ∀ i c, _ → _ from fun i c h => by simp at h, show ∀ i, _ → _ from fun i hi => ten_cells hi, by simp [go_sem], (by ((repeat (first | with_reducible refine Below.drew ?_ | (with_reducible refine Below.alloc ?_ ?_ _; rotate_left; (focus (first | (simp; done) | (simp; omega) | omega))) | (with_reducible refine Below.setCell ?_ ?_ _; rotate_left; (focus (first | (simp; done) | (simp; omega) | omega))))); (first | with_reducible exact Below.refl _ _ | with_reducible assumption))), by simp⟩
  case round =>
    obtain ⟨p, m, tail, rfl, rfl, hp, hd, hm, hmN, h0, ht, hc, hf, hb, hz⟩ := hrel
    obtain ⟨q, rfl⟩ : ∃ q, p = q + 1 := ⟨p - 1, by omega⟩
    obtain ⟨v, hv⟩ := hc.out q (by omega)
    have hq20 : (q : Int) ≤ 20 := by omega
    have hcell : (wr.setCell ⟨w.heap.size, q, none⟩ (.int .u8 (48 + (m : Int) % 10))).cell? ⟨w.heap.size, q, none⟩ = some (.int .u8 (48 + (m : Int) % 10)) := World.cell?_setCell_same _ _ _ hv
    have hnew : Hid (∀ i c, (UInt8.ofNat (48 + m % 10) :: tail)[i]? = some c → (wr.setCell ⟨w.heap.size, q, none⟩ (.int .u8 (48 + (m : Int) % 10))).cell? ⟨w.heap.size, q + i, none⟩ = some (.int .u8 c.toNat)) := by
      show ∀ i c, _ → _
      intro i c hi
      cases i with
      | zero =>
        simp only [List.getElem?_cons_zero, Option.some.injEq] at hi
        subst hi
        rw [Nat.add_zero, hcell, UInt8.toNat_ofNat']
        congr 2
        omega
      | succ j =>
        rw [World.cell?_setCell_other _ _ _ _ (by intro e; injection e with _ e; omega), show q + (j + 1) = q + 1 + j by omega]
        exact ht.out j c (by simpa using hi)
    clear hcell
    by_cases h10 : m < 10
    · have h10' : ((m : Int) / 10 == 0) = true := by simp; omega
      have hs : decS N = ⟨(UInt8.ofNat (48 + m % 10) :: tail).toArray⟩ := by
        unfold decS; rw [hd.out, decG, if_pos h10, Nat.mod_eq_of_lt h10]; rfl
      have hconv : ∀ cap, (convert 88 9 (.slice (some ⟨w.heap.size, q, none⟩) (20 - q) cap)).run Try.prog (wr.setCell ⟨w.heap.size, q, none⟩ (.int .u8 (48 + (m : Int) % 10))) = .ok (.string (decS N)) (wr.setCell ⟨w.heap.size, q, none⟩ (.int .u8 (48 + (m : Int) % 10))) := fun cap => by
        have hsz : (decS N).size = 20 - q := by rw [hs]; simp [ByteArray.size]; omega
        rw [← hsz]
        refine Lib.run_convert_whole _ _ 5 _ Try.underlying88 Try.underlying5 Try.underlying9 _ _ _ (fun i hi => ?_) cap
        refine hnew.out i _ ?_
        rw [List.getElem?_eq_getElem (by rw [hs] at hi; simpa [ByteArray.size] using hi)]
        congr 1
        simp only [hs]
        rfl
      clear hs
      go_wp2_with fail
      go_ret
      exact ⟨rfl, (by ((repeat (first | with_reducible refine Below.drew ?_ | (with_reducible refine Below.alloc ?_ ?_ _; rotate_left; (focus (first | (simp; done) | (simp; omega) | omega))) | (with_reducible refine Below.setCell ?_ ?_ _; rotate_left; (focus (first | (simp; done) | (simp; omega) | omega))))); (first | with_reducible exact Below.refl _ _ | with_reducible assumption)))⟩
    · have h10' : ((m : Int) / 10 == 0) = false := by simp; omega
      go_wp2_with fail
      go_roundw
      case rel => exact ⟨q, m / 10, UInt8.ofNat (48 + m % 10) :: tail, by go_num, rfl, by simp; omega, show _ = _ by rw [hd.out, decG, if_neg h10]; simp, show _ < _ from dec_pow hm.out, by omega, dec_pos hm.out h10, hnew, show ∀ i, _ → _ from fun i hi => set_some (hc.out i hi), fun i => by simp [go_sem, hf], (by ((repeat (first | with_reducible refine Below.drew ?_ | (with_reducible refine Below.alloc ?_ ?_ _; rotate_left; (focus (first | (simp; done) | (simp; omega) | omega))) | (with_reducible refine Below.setCell ?_ ?_ _; rotate_left; (focus (first | (simp; done) | (simp; omega) | omega))))); (first | with_reducible exact Below.refl _ _ | with_reducible assumption))), by simpa [World.setCell] using hz⟩
      case measure => simp [intOf]; omega

set_option maxHeartbeats 400000 in
theorem signed_neg (n : Int) (w : World) (h : n < 0) (hl : -9223372036854775808 ≤ n) :
    Calls Try.prog 33 #[.int .i64 n] w fun e w' => e = .returned (.string (⟨#[45]⟩ ++ decS (-n).toNat)) ∧ Below w.heap.size w w' := by
  have HD := fun (w : World) => decimal_any (-n).toNat w (by omega)
  have HDD := Lib.hid HD
  have HU := Lib.hid (u64_neg h hl)
  have hsz := decS_size (-n).toNat
  clear HD hl
  go_enter Try.func33, Try.ntmps33
  go_wp2_with fail
  rw [HU.out]
  refine (HDD.out _).mono ?_
  rintro e w' ⟨rfl, hb⟩
  go_wp2_with fail
  go_ret
  exact ⟨rfl, hb⟩

set_option maxHeartbeats 400000 in
theorem signed_pos (n : Int) (w : World) (h : 0 ≤ n) (hl : n ≤ 9223372036854775807) :
    Calls Try.prog 33 #[.int .i64 n] w fun e w' => e = .returned (.string (⟨#[43]⟩ ++ decS n.toNat)) ∧ Below w.heap.size w w' := by
  have HD := fun (w : World) => decimal_any n.toNat w (by omega)
  have HDD := Lib.hid HD
  have HU := Lib.hid (u64_pos h hl)
  have hsz := decS_size n.toNat
  clear HD hl
  go_enter Try.func33, Try.ntmps33
  go_wp2_with fail
  rw [HU.out]
  refine (HDD.out _).mono ?_
  rintro e w' ⟨rfl, hb⟩
  go_wp2_with fail
  go_ret
  exact ⟨rfl, hb⟩

end Go.Proofs.Ythhlghoeapjagaa
