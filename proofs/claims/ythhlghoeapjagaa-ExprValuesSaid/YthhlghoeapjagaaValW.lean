/- ExprValues: for every two values and every text the law returns true and changes nothing that was there. -/
import Derived.Test.YthhlghoeapjagaaEi
import Derived.Test.YthhlghoeapjagaaRa
import Derived.Test.YthhlghoeapjagaaRe
import Derived.Deep.RegionHeld3
import Derived.Deep.DrawnRows
set_option linter.unusedVariables false
set_option linter.unusedSimpArgs false
namespace Go.Proofs.Ythhlghoeapjagaa
open Go.RowKit
attribute [local go_sem ↓] Go.wp_at_zero Go.wp_at_succ

theorem AddPost.b {A B : Val} {w : World} {e : Ending} {w' : World} (h : AddPost A B w e w') : AddB A B w e w' := by
  obtain ⟨r, x, o1, o2, o3, o4, o5, o6, o7, hr, he, rfl⟩ := h
  exact ⟨r, x, hr, he, (by ((repeat (first | with_reducible refine Below.drew ?_ | (with_reducible refine Below.alloc ?_ ?_ _; rotate_left; (focus (first | (simp; done) | (simp; omega) | omega))) | (with_reducible refine Below.setCell ?_ ?_ _; rotate_left; (focus (first | (simp; done) | (simp; omega) | omega))))); (first | with_reducible exact Below.refl _ _ | with_reducible assumption)))⟩

theorem keep2 {w : World} {b i : Nat} {v : Value} {o1 o2 : Obj} (h : w.cell? ⟨b, i, none⟩ = some v) (hb : b < w.heap.size) : ((w.alloc o1).alloc o2).drew.cell? ⟨b, i, none⟩ = some v := by
  show ((w.alloc o1).alloc o2).cell? ⟨b, i, none⟩ = some v
  rw [World.cell?_alloc_past _ _ _ (by simp; omega), World.cell?_alloc_past _ _ _ hb, h]
theorem keep4 {w : World} {b i : Nat} {v : Value} {o1 o2 o3 o4 : Obj} (h : w.cell? ⟨b, i, none⟩ = some v) (hb : b < w.heap.size) : ((((w.alloc o1).alloc o2).alloc o3).alloc o4).drew.cell? ⟨b, i, none⟩ = some v := by
  show ((((w.alloc o1).alloc o2).alloc o3).alloc o4).cell? ⟨b, i, none⟩ = some v
  rw [World.cell?_alloc_past _ _ _ (by simp; omega), World.cell?_alloc_past _ _ _ (by simp; omega), World.cell?_alloc_past _ _ _ (by simp; omega), World.cell?_alloc_past _ _ _ hb, h]

theorem below_trv {B : Nat} {w0 W w2 : World} (h : Below W.heap.size W w2) (h0 : Below B w0 W) (hB : B ≤ W.heap.size) : Below B w0 w2 := h0.trans (h.mono hB)

set_option maxRecDepth 100000 in
set_option maxHeartbeats 2000000 in
theorem values_walk (a : Int) (p m : ByteArray) (b : Int) (q n s : ByteArray) (w : World) (hp : p.size ≤ 140737488355328) (hm : m.size ≤ 140737488355328) (hq : q.size ≤ 140737488355328) (hn : n.size ≤ 140737488355328) (hs : s.size ≤ 140737488355328) (hl : -9223372036854775808 ≤ a) (hu : a ≤ 9223372036854775807) :
    Calls Try.prog 3 #[.agg #[.int .i64 a, .string p, .string m], .agg #[.int .i64 b, .string q, .string n], .string s] w fun e w' => e = .returned (.bool true) ∧ Below w.heap.size w w' := by
  have HP := Lib.hid (fun W => print_any a p m W (by unfold maxLen; omega) (by unfold maxLen; omega) hl hu)
  have HQ := Lib.hid (fun W => rprint_any a p m W (by unfold maxLen; omega) (by unfold maxLen; omega) hl hu)
  have HS := Lib.hid (fun W => isSym_any s W (by unfold maxLen; omega))
  have HT := Lib.hid (fun W => risSym_any s W (by unfold maxLen; omega))
  clear hl hu
  have ca0z : ((w.alloc (.cells #[.int .i64 a, .string p, .string m] 23)).alloc (.cells #[.int .i64 b, .string q, .string n] 23)).cell? ⟨w.heap.size, 0, none⟩ = some (.int .i64 a) := by go_simp
  have ca1z : ((w.alloc (.cells #[.int .i64 a, .string p, .string m] 23)).alloc (.cells #[.int .i64 b, .string q, .string n] 23)).cell? ⟨w.heap.size, 1, none⟩ = some (.string p) := by go_simp
  have ca2z : ((w.alloc (.cells #[.int .i64 a, .string p, .string m] 23)).alloc (.cells #[.int .i64 b, .string q, .string n] 23)).cell? ⟨w.heap.size, 2, none⟩ = some (.string m) := by go_simp
  have cb0z : ((w.alloc (.cells #[.int .i64 a, .string p, .string m] 23)).alloc (.cells #[.int .i64 b, .string q, .string n] 23)).cell? ⟨w.heap.size + 1, 0, none⟩ = some (.int .i64 b) := by go_simp
  have cb1z : ((w.alloc (.cells #[.int .i64 a, .string p, .string m] 23)).alloc (.cells #[.int .i64 b, .string q, .string n] 23)).cell? ⟨w.heap.size + 1, 1, none⟩ = some (.string q) := by go_simp
  have cb2z : ((w.alloc (.cells #[.int .i64 a, .string p, .string m] 23)).alloc (.cells #[.int .i64 b, .string q, .string n] 23)).cell? ⟨w.heap.size + 1, 2, none⟩ = some (.string n) := by go_simp
  have hB0 : Below w.heap.size w ((w.alloc (.cells #[.int .i64 a, .string p, .string m] 23)).alloc (.cells #[.int .i64 b, .string q, .string n] 23)) := (by ((repeat (first | with_reducible refine Below.drew ?_ | (with_reducible refine Below.alloc ?_ ?_ _; rotate_left; (focus (first | (simp; done) | (simp; omega) | omega))) | (with_reducible refine Below.setCell ?_ ?_ _; rotate_left; (focus (first | (simp; done) | (simp; omega) | omega))))); (first | with_reducible exact Below.refl _ _ | with_reducible assumption)))
  obtain ⟨w0, ew0⟩ : ∃ w0, w0 = ((w.alloc (.cells #[.int .i64 a, .string p, .string m] 23)).alloc (.cells #[.int .i64 b, .string q, .string n] 23)) := ⟨_, rfl⟩
  have hz0 : w0.heap.size = w.heap.size + 2 := by rw [ew0]; simp
  rw [← ew0] at ca0z ca1z ca2z cb0z cb1z cb2z hB0
  have hz1 := Lib.hid hz0
  have EW := Lib.hid ew0
  clear hz0 ew0
  go_enter Try.func3, Try.ntmps3
  go_wp2_with fail
  rw [← EW.out]
  refine (live_any _).mono ?_
  rintro e w1 ⟨rfl, hb⟩
  have hs1 := hb.size
  rw [hz1.out] at hs1
  have hB : Below (w.heap.size + 2) w0 w1 := hb.mono (by rw [hz1.out]; omega)
  clear hb
  obtain ⟨kk, -⟩ := bat hB (b := w.heap.size) (by omega)
  have ca0w1 := (kk 0).trans ca0z
  have ca1w1 := (kk 1).trans ca1z
  have ca2w1 := (kk 2).trans ca2z
  clear kk
  obtain ⟨kk, -⟩ := bat hB (b := w.heap.size + 1) (by omega)
  have cb0w1 := (kk 0).trans cb0z
  have cb1w1 := (kk 1).trans cb1z
  have cb2w1 := (kk 2).trans cb2z
  clear kk
  by_cases h1 : (3000 : Int) < (p.size : Int) + (m.size : Int)
  · go_wp2_with fail
    go_ret
    have hBB : Below w.heap.size w w1 := hB0.trans (hB.mono (by omega))
    exact ⟨rfl, (by ((repeat (first | with_reducible refine Below.drew ?_ | (with_reducible refine Below.alloc ?_ ?_ _; rotate_left; (focus (first | (simp; done) | (simp; omega) | omega))) | (with_reducible refine Below.setCell ?_ ?_ _; rotate_left; (focus (first | (simp; done) | (simp; omega) | omega))))); (first | with_reducible exact Below.refl _ _ | with_reducible assumption)))⟩
  by_cases h2 : (3000 : Int) < (s.size : Int)
  · go_wp2_with fail
    go_ret
    have hBB : Below w.heap.size w w1 := hB0.trans (hB.mono (by omega))
    exact ⟨rfl, (by ((repeat (first | with_reducible refine Below.drew ?_ | (with_reducible refine Below.alloc ?_ ?_ _; rotate_left; (focus (first | (simp; done) | (simp; omega) | omega))) | (with_reducible refine Below.setCell ?_ ?_ _; rotate_left; (focus (first | (simp; done) | (simp; omega) | omega))))); (first | with_reducible exact Below.refl _ _ | with_reducible assumption)))⟩
  go_wp2_with fail
  refine (add_any _ _ _ _ _ _ _ hp hm hq hn).mono ?_
  intro e w2 h3
  obtain ⟨x, e, hx, rfl, hb⟩ := h3.b
  clear h3
  clear ca0w1 ca1w1 ca2w1 cb0w1 cb1w1 cb2w1
  have hs2 := hb.size
  replace hB : Below (w.heap.size + 2) w0 w2 := below_trv hb hB (by omega)
  clear hb
  obtain ⟨kk, -⟩ := bat hB (b := w.heap.size) (by omega)
  have ca0w2 := (kk 0).trans ca0z
  have ca1w2 := (kk 1).trans ca1z
  have ca2w2 := (kk 2).trans ca2z
  clear kk
  obtain ⟨kk, -⟩ := bat hB (b := w.heap.size + 1) (by omega)
  have cb0w2 := (kk 0).trans cb0z
  have cb1w2 := (kk 1).trans cb1z
  have cb2w2 := (kk 2).trans cb2z
  clear kk
  have l2a : w.heap.size < w2.heap.size := by omega
  have l2b : w.heap.size + 1 < w2.heap.size := by omega
  have HX := Lib.hid hx
  clear hx
  go_wp2_with fail
  refine (radd_any _ _ _ _ _ _ _).mono ?_
  intro e w3 h3
  obtain ⟨y, f, hy, rfl, hb⟩ := h3
  rw [HX.out] at hy
  injection hy with hy hf
  subst hy
  subst hf
  clear ca0w2 ca1w2 ca2w2 cb0w2 cb1w2 cb2w2
  obtain ⟨kk, -⟩ := bat hb (b := w2.heap.size) (by simp)
  have cx0 : w3.cell? ⟨w2.heap.size, 0, none⟩ = some (.int .i64 x.add) := by rw [kk]; go_simp
  have cx1 : w3.cell? ⟨w2.heap.size, 1, none⟩ = some (.string x.plus) := by rw [kk]; go_simp
  have cx2 : w3.cell? ⟨w2.heap.size, 2, none⟩ = some (.string x.minus) := by rw [kk]; go_simp
  clear kk
  have hs3 := hb.size
  simp at hs3
  replace hB : Below (w.heap.size + 2) w0 w3 := below_trv hb (by ((repeat (first | with_reducible refine Below.drew ?_ | (with_reducible refine Below.alloc ?_ ?_ _; rotate_left; (focus (first | (simp; done) | (simp; omega) | omega))) | (with_reducible refine Below.setCell ?_ ?_ _; rotate_left; (focus (first | (simp; done) | (simp; omega) | omega))))); (first | with_reducible exact Below.refl _ _ | with_reducible assumption))) (by simp; omega)
  clear hb
  obtain ⟨kk, -⟩ := bat hB (b := w.heap.size) (by omega)
  have ca0w3 := (kk 0).trans ca0z
  have ca1w3 := (kk 1).trans ca1z
  have ca2w3 := (kk 2).trans ca2z
  clear kk
  have l3a : w.heap.size < w3.heap.size := by omega
  have l3x : w2.heap.size < w3.heap.size := by omega
  go_wp2_with fail
  refine (HP.out _).mono ?_
  intro e w4 h4
  obtain ⟨t, g, ht, rfl, hb⟩ := h4
  obtain ⟨kk, -⟩ := bat hb (b := w2.heap.size) (by simp; omega)
  have dx0 : w4.cell? ⟨w2.heap.size, 0, none⟩ = some (.int .i64 x.add) := by rw [kk]; go_simp
  have dx1 : w4.cell? ⟨w2.heap.size, 1, none⟩ = some (.string x.plus) := by rw [kk]; go_simp
  have dx2 : w4.cell? ⟨w2.heap.size, 2, none⟩ = some (.string x.minus) := by rw [kk]; go_simp
  clear kk
  obtain ⟨kk, -⟩ := bat hb (b := w3.heap.size) (by simp)
  have dy0 : w4.cell? ⟨w3.heap.size, 0, none⟩ = some (.int .i64 x.add) := by rw [kk]; go_simp
  have dy1 : w4.cell? ⟨w3.heap.size, 1, none⟩ = some (.string x.plus) := by rw [kk]; go_simp
  have dy2 : w4.cell? ⟨w3.heap.size, 2, none⟩ = some (.string x.minus) := by rw [kk]; go_simp
  clear kk cx0 cx1 cx2
  clear ca0w3 ca1w3 ca2w3
  have hs4 := hb.size
  simp at hs4
  replace hB : Below (w.heap.size + 2) w0 w4 := below_trv hb (by ((repeat (first | with_reducible refine Below.drew ?_ | (with_reducible refine Below.alloc ?_ ?_ _; rotate_left; (focus (first | (simp; done) | (simp; omega) | omega))) | (with_reducible refine Below.setCell ?_ ?_ _; rotate_left; (focus (first | (simp; done) | (simp; omega) | omega))))); (first | with_reducible exact Below.refl _ _ | with_reducible assumption))) (by simp; omega)
  clear hb
  obtain ⟨kk, -⟩ := bat hB (b := w.heap.size) (by omega)
  have ca0w4 := (kk 0).trans ca0z
  have ca1w4 := (kk 1).trans ca1z
  have ca2w4 := (kk 2).trans ca2z
  clear kk
  have HTT := Lib.hid ht
  clear ht
  go_wp2_with fail
  refine (HQ.out _).mono ?_
  intro e w5 h5
  obtain ⟨t', g', ht, rfl, hb⟩ := h5
  rw [HTT.out] at ht
  injection ht with ht hg
  subst ht
  subst hg
  obtain ⟨kk, -⟩ := bat hb (b := w2.heap.size) (by omega)
  have ex0 := (kk 0).trans dx0
  have ex1 := (kk 1).trans dx1
  have ex2 := (kk 2).trans dx2
  clear kk
  obtain ⟨kk, -⟩ := bat hb (b := w3.heap.size) (by omega)
  have ey0 := (kk 0).trans dy0
  have ey1 := (kk 1).trans dy1
  have ey2 := (kk 2).trans dy2
  clear kk dx0 dx1 dx2 dy0 dy1 dy2
  clear ca0w4 ca1w4 ca2w4
  have hs5 := hb.size
  replace hB : Below (w.heap.size + 2) w0 w5 := below_trv hb hB (by omega)
  clear hb
  obtain ⟨kk, -⟩ := bat hB (b := w.heap.size) (by omega)
  have ca0w5 := (kk 0).trans ca0z
  have ca1w5 := (kk 1).trans ca1z
  have ca2w5 := (kk 2).trans ca2z
  clear kk
  have m1 : w.heap.size < w5.heap.size := by omega
  have m2 : w2.heap.size < w5.heap.size := by omega
  have m3 : w3.heap.size < w5.heap.size := by omega
  have m4 : w.heap.size ≤ w5.heap.size := by omega
  have m5 : w2.heap.size ≤ w5.heap.size := by omega
  have m6 : w3.heap.size ≤ w5.heap.size := by omega
  go_wp2_with fail
  go_region_held3 (fun w' => (w'.cell? ⟨w2.heap.size, 0, none⟩ = some (.int .i64 x.add) ∧ w'.cell? ⟨w2.heap.size, 1, none⟩ = some (.string x.plus) ∧ w'.cell? ⟨w2.heap.size, 2, none⟩ = some (.string x.minus)) ∧ (w'.cell? ⟨w3.heap.size, 0, none⟩ = some (.int .i64 x.add) ∧ w'.cell? ⟨w3.heap.size, 1, none⟩ = some (.string x.plus) ∧ w'.cell? ⟨w3.heap.size, 2, none⟩ = some (.string x.minus)) ∧ (w'.cell? ⟨w.heap.size, 0, none⟩ = some (.int .i64 a) ∧ w'.cell? ⟨w.heap.size, 1, none⟩ = some (.string p) ∧ w'.cell? ⟨w.heap.size, 2, none⟩ = some (.string m))) (first | (go_keep; done) | exact ⟨⟨keep2 ex0 m2, keep2 ex1 m2, keep2 ex2 m2⟩, ⟨keep2 ey0 m3, keep2 ey1 m3, keep2 ey2 m3⟩, keep2 ca0w5 m1, keep2 ca1w5 m1, keep2 ca2w5 m1⟩ | exact ⟨⟨keep4 ex0 m2, keep4 ex1 m2, keep4 ex2 m2⟩, ⟨keep4 ey0 m3, keep4 ey1 m3, keep4 ey2 m3⟩, keep4 ca0w5 m1, keep4 ca1w5 m1, keep4 ca2w5 m1⟩)
    (first
      | (go_at_call 12; refine (neg_any _ _ _ _).mono ?_; rintro e w6 ⟨rfl, o1, o2, rfl⟩)
      | (go_at_call 13; refine (rneg_any _ _ _ _).mono ?_; rintro e w6 ⟨rfl, o1, o2, rfl⟩)
      | (go_at_call 14; refine (HS.out _).mono ?_; rintro e w6 ⟨rfl, rfl⟩)
      | (go_at_call 15; refine (HT.out _).mono ?_; rintro e w6 ⟨rfl, rfl⟩))
  all_goals
    go_wp2_with fail
    go_ret
    have hBB : Below w.heap.size w w5 := hB0.trans (hB.mono (by omega))
    exact ⟨rfl, (by ((repeat (first | with_reducible refine Below.drew ?_ | (with_reducible refine Below.alloc ?_ ?_ _; rotate_left; (focus (first | (simp; done) | (simp; omega) | omega))) | (with_reducible refine Below.setCell ?_ ?_ _; rotate_left; (focus (first | (simp; done) | (simp; omega) | omega))))); (first | with_reducible exact Below.refl _ _ | with_reducible assumption)))⟩

end Go.Proofs.Ythhlghoeapjagaa
