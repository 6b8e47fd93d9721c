/- The law of the first fault: its walk. -/
import Derived.Test.YtpdjaabjfhjppaaGreatDoorH4
set_option linter.unusedVariables false
set_option linter.unusedSimpArgs false
namespace Go.Proofs.YtpdjaabjfhjppaaGreatDoor
open Go.RowKit
set_option maxRecDepth 100000

/-- the loop over the faults, and what follows -/
def sfI (f : List Flt) (o : Int) (a x : Flt) (i : Nat) : St := ⟨2, [(0, tFlts.enc f), (1, .s (.l (.v (.int .u8 o)))), (5, pv 0 0 0), (7, pv 1 0 0), (8, bv true), (30, tFlts.enc f), (31, iv f.length), (32, iv i)], [(0, some (cellF a)), (1, some (cellF x))]⟩

theorem tmod_nat {z : Int} {n : Nat} (h : 0 ≤ z) (hn : 0 < n) : ∃ m : Nat, z.tmod (n : Int) = (m : Int) ∧ m < n := by
  have h1 := Int.tmod_nonneg (n : Int) h
  have h2 := Int.tmod_lt_of_pos z (b := (n : Int)) (by omega)
  exact ⟨(z.tmod n).toNat, by omega, by omega⟩
set_option maxHeartbeats 8000000 in
theorem sf_sw (f : List Flt) (o : Int) (ho : 0 ≤ o ∧ o ≤ 255) (a : Flt) : SW Tryz.prog ⟨none, 0⟩ Tryz.f3.ntmps (Tryz.f3.body.getD .skip) ⟨0, zipT 0 [tFlts.enc f, (tInt .u8).enc o, tFlt.enc a], []⟩ (outQ Tryz.prog Tryz.f3.results.toList (.ret (bv true))) := by
  refine aRun_sound (ctx := [⟨_, liveES⟩, ⟨_, firstS⟩, ⟨_, hasS⟩]) 4000 ?_
  rw [Tryz.ntmps3, Tryz.results3]
  simp only [Tryz.f3, Option.getD_some, zipT]
  by_cases hl : 500 < f.length
  · have hlI : (500 : Int) < f.length := by omega
    simp only [go_sem, liveE_run, liveE_pan, hlI]
  have hlI : ¬ (500 : Int) < f.length := by omega
  have hl6 : f.length ≤ 1000000 := by omega
  by_cases hnil : f = []
  · subst hnil
    simp only [go_sem, liveE_run, liveE_pan, ↓pure_bne, bne_self_eq_false, first_run, first_pan, firstV, fltV, firstO]
    refine sw_loop (ι := Unit) (fun _ => True) (fun _ => ⟨0, [(8, bv false), (31, iv 0), (32, iv 0)], []⟩) (fun _ => 0) () trivial (Wk.renL [] (by simp) (by simp) (by simp) rfl rfl) ?_
    intro _ _
    refine aRun_sound (ctx := []) 4000 ?_
    simp only [go_sem]
  obtain ⟨h1, h2, h3⟩ := firstO_all hnil
  obtain ⟨x, hx⟩ : ∃ x, (firstO f).1 = x := ⟨_, rfl⟩
  have hO : firstO f = (x, true) := by rw [← hx, ← h1]
  rw [hx] at h2 h3
  have hpos : 0 < f.length := List.length_pos_iff.2 hnil
  have hpI : (0 : Int) < f.length := by omega
  have hn0 : ¬ (f.length : Int) = 0 := by omega
  simp only [go_sem, liveE_run, liveE_pan, ↓pure_bne, bne_self_eq_false, first_run, first_pan, hl6, hlI, hpI, firstV, fltV, hO, fltE]
  refine sw_loop (ι := Nat) (fun i => i ≤ f.length) (sfI f o a x) (fun i => f.length - i) 0 (Nat.zero_le _) ?_ ?_
  · exact Wk.renL [0, 192] (by simp) (Nat.le_refl 2) (by simp) rfl rfl
  intro i hi
  refine aRun_sound (ctx := [⟨_, lessS⟩]) 4000 ?_
  by_cases hlt : i < f.length
  · have hltI : (i : Int) < f.length := by omega
    obtain ⟨y, hy⟩ : ∃ y, f[i]? = some y := ⟨_, List.getElem?_eq_getElem hlt⟩
    have ei : IntKind.i64.wrap ((i : Int) + 1) = ((i + 1 : Nat) : Int) := by rw [IntKind.wrap_i64]; omega
    have hyx : lessF y x = false := h3 y (List.mem_of_getElem? hy)
    have hyy := lessF_irr y
    have e1 : IntKind.i64.wrap o = o := by rw [IntKind.wrap_i64]; omega
    have e2 : IntKind.i64.wrap ((i : Int) + o) = i + o := by rw [IntKind.wrap_i64]; omega
    obtain ⟨m, em, hm⟩ := tmod_nat (z := (i : Int) + o) (by omega) hpos
    obtain ⟨z, hz⟩ : ∃ z, f[m]? = some z := ⟨_, List.getElem?_eq_getElem hm⟩
    have h0m : (0 : Int) ≤ (m : Int) := by omega
    by_cases hA : y = a
    · have hA' : (a = a) = True := eq_self a
      subst hA
      simp only [go_sem, ↓flt_neq, sfI, cellF, hltI, hlt, hy, less_run, less_pan, fltE, fltD, hyx, hyy, e1, e2, hn0, em, h0m, Int.toNat_natCast, hz, hm, decide_true, ei]
      exact ⟨i + 1, hlt, by omega, Wk.renL [0, 1] (by simp) (Nat.le_refl 2) (by simp) rfl rfl⟩
    · by_cases hB : lessF y a = true
      · have hB2 := lessF_asym hB
        have hd : decide (y = a) = false := by simpa using hA
        by_cases hC : lessF a z = true
        · have hC2 := lessF_trans hB hC
          simp only [go_sem, ↓flt_neq, sfI, cellF, hltI, hlt, hy, less_run, less_pan, fltE, fltD, hyx, hyy, e1, e2, hn0, em, h0m, Int.toNat_natCast, hz, hm, hd, hB, hB2, hC, hC2, ei]
          exact ⟨i + 1, hlt, by omega, Wk.renL [0, 1] (by simp) (Nat.le_refl 2) (by simp) rfl rfl⟩
        · have hC' : lessF a z = false := by simpa using hC
          simp only [go_sem, ↓flt_neq, sfI, cellF, hltI, hlt, hy, less_run, less_pan, fltE, fltD, hyx, hyy, e1, e2, hn0, em, h0m, Int.toNat_natCast, hz, hm, hd, hB, hB2, hC', ei]
          exact ⟨i + 1, hlt, by omega, Wk.renL [0, 1] (by simp) (Nat.le_refl 2) (by simp) rfl rfl⟩
      · have hB' : lessF y a = false := by simpa using hB
        have hB2 := lessF_total hA hB'
        have hd : decide (y = a) = false := by simpa using hA
        simp only [go_sem, ↓flt_neq, sfI, cellF, hltI, hlt, hy, less_run, less_pan, fltE, fltD, hyx, hyy, e1, e2, hn0, em, h0m, Int.toNat_natCast, hz, hm, hd, hB', hB2, ei]
        exact ⟨i + 1, hlt, by omega, Wk.renL [0, 1] (by simp) (Nat.le_refl 2) (by simp) rfl rfl⟩
  · obtain rfl : i = f.length := by omega
    have hI : ¬ (f.length : Int) < f.length := by omega
    have e1 : IntKind.i64.wrap o = o := by rw [IntKind.wrap_i64]; omega
    obtain ⟨k, ek, hk⟩ := tmod_nat (z := o) ho.1 hpos
    simp only [go_sem, hI, hn0, e1, ek, sfI, cellF]
    refine sw_drawF (ctx := [⟨_, cloneS⟩, ⟨_, firstS⟩]) mixed ⟨[], [(7, [194]), (13, [338])], [(12, [194]), (11, [338])]⟩ (by kernel_rfl) ?_
    have hkI : (k : Int) ≤ (f.length : Int) := by omega
    have eD : List.take (f.length - k) (List.drop k (List.map fltR.enc f)) = List.map fltR.enc (f.drop k) := by rw [← List.map_drop, List.take_of_length_le (by simp)]
    have eT : List.take k (List.map fltR.enc f) = List.map fltR.enc (f.take k) := (List.map_take ..).symm
    have q1 : f.drop k ≠ [] := by rw [Ne, List.drop_eq_nil_iff]; omega
    have q2 : (f.drop k).length ≤ 1000000 := by rw [List.length_drop]; omega
    have eT0 : List.take (k - 0) (List.map fltR.enc f) = List.map fltR.enc (f.take k) := by rw [Nat.sub_zero]; exact eT
    have eE : List.take (List.drop k f).length (((f.drop k).map fltR.enc).map ofDs) = ((f.drop k).map fltR.enc).map ofDs := List.take_of_length_le (by simp)
    have hf := firstO_turn k hnil
    rw [hx] at hf
    obtain ⟨m, hm⟩ : ∃ m, f.drop k ++ f.take k = m := ⟨_, rfl⟩
    have hlen : (f.drop k).length + (f.take k).length = m.length := by rw [← hm, List.length_append]
    have hml : m.length = f.length := by rw [← hlen, List.length_drop, List.length_take]; omega
    have eA : ((f.drop k).map fltR.enc).map ofDs ++ ((f.take k).map fltR.enc).map ofDs = (m.map fltR.enc).map ofDs := by rw [← hm, List.map_append, List.map_append]
    have q3 : m.length ≤ maxLen := by unfold maxLen; omega
    have q4 : m.length * 24 ≤ 140737488355328 := by omega
    have q5 : m.length ≤ 1000000 := by omega
    have hm0 : m ≠ [] := by
      intro h
      rw [h] at hml
      simp at hml
      omega
    rw [hm] at hf
    have hO2 : firstO m = (x, true) := by rw [← hf, ← (firstO_all hm0).1]
    have hhas := ixF_mem h2
    have eM : List.take m.length ((m.map fltR.enc).map ofDs) = (m.map fltR.enc).map ofDs := List.take_of_length_le (by simp)
    simp only [go_sem, hk, hkI, eD, eT, eT0, eE, fltsK, hlen, eA, q3, q4, q5, eM, clone_run, clone_pan, runN, decO, q1, q2, first_run, first_pan, hO2, firstV, fltV, ↓flt_eql, has_run, has_pan, fltE, fltD, hl6, hhas, decide_true]
end Go.Proofs.YtpdjaabjfhjppaaGreatDoor
