/- ExprNumbers: for every two values the law returns true and changes nothing that was there. -/
import Derived.Test.YthhlghoeapjagaaEi
import Derived.Test.YthhlghoeapjagaaPlain4
import Derived.Deep.DeepCutAuto
namespace Go.Proofs.Ythhlghoeapjagaa
open Go.RowKit
attribute [local go_sem ↓] Go.wp_at_zero Go.wp_at_succ

theorem AddPost.below {A B : Val} {w : World} {e : Ending} {w' : World} (h : AddPost A B w e w') :
    ∃ r x, addF A B = (r, x) ∧ e = .returned (.tuple #[.agg #[.int .i64 r.add, .string r.plus, .string r.minus], .int .i64 x]) ∧ Below w.heap.size w w' := by
  obtain ⟨r, x, o1, o2, o3, o4, o5, o6, o7, hr, he, rfl⟩ := h
  exact ⟨r, x, hr, he, (by ((repeat (first | with_reducible refine Below.drew ?_ | (with_reducible refine Below.alloc ?_ ?_ _; rotate_left; (focus (first | (simp; done) | (simp; omega) | omega))) | (with_reducible refine Below.setCell ?_ ?_ _; rotate_left; (focus (first | (simp; done) | (simp; omega) | omega))))); (first | with_reducible exact Below.refl _ _ | with_reducible assumption)))⟩

theorem below_tr {B : Nat} {w0 W w2 : World} (h : Below W.heap.size W w2) (h0 : Below B w0 W) (hB : B ≤ W.heap.size) : Below B w0 w2 := h0.trans (h.mono hB)

set_option maxRecDepth 100000 in
set_option maxHeartbeats 2000000 in
theorem numbers_walk (a : Int) (p m : ByteArray) (b : Int) (q n : ByteArray) (w : World) (hp : p.size ≤ 140737488355328) (hm : m.size ≤ 140737488355328) (hq : q.size ≤ 140737488355328) (hn : n.size ≤ 140737488355328) :
    Calls Try.prog 4 #[.agg #[.int .i64 a, .string p, .string m], .agg #[.int .i64 b, .string q, .string n]] w fun e w' => e = .returned (.bool true) ∧ Below w.heap.size w w' := by
  have ca0z : ((w.alloc (.cells #[.int .i64 a, .string p, .string m] 23)).alloc (.cells #[.int .i64 b, .string q, .string n] 23)).cell? ⟨w.heap.size, 0, none⟩ = some (.int .i64 a) := by go_simp
  have ca1z : ((w.alloc (.cells #[.int .i64 a, .string p, .string m] 23)).alloc (.cells #[.int .i64 b, .string q, .string n] 23)).cell? ⟨w.heap.size, 1, none⟩ = some (.string p) := by go_simp
  have ca2z : ((w.alloc (.cells #[.int .i64 a, .string p, .string m] 23)).alloc (.cells #[.int .i64 b, .string q, .string n] 23)).cell? ⟨w.heap.size, 2, none⟩ = some (.string m) := by go_simp
  have cb0z : ((w.alloc (.cells #[.int .i64 a, .string p, .string m] 23)).alloc (.cells #[.int .i64 b, .string q, .string n] 23)).cell? ⟨w.heap.size + 1, 0, none⟩ = some (.int .i64 b) := by go_simp
  have cb1z : ((w.alloc (.cells #[.int .i64 a, .string p, .string m] 23)).alloc (.cells #[.int .i64 b, .string q, .string n] 23)).cell? ⟨w.heap.size + 1, 1, none⟩ = some (.string q) := by go_simp
  have cb2z : ((w.alloc (.cells #[.int .i64 a, .string p, .string m] 23)).alloc (.cells #[.int .i64 b, .string q, .string n] 23)).cell? ⟨w.heap.size + 1, 2, none⟩ = some (.string n) := by go_simp
  have hB0 : Below w.heap.size w ((w.alloc (.cells #[.int .i64 a, .string p, .string m] 23)).alloc (.cells #[.int .i64 b, .string q, .string n] 23)) := (by ((repeat (first | with_reducible refine Below.drew ?_ | (with_reducible refine Below.alloc ?_ ?_ _; rotate_left; (focus (first | (simp; done) | (simp; omega) | omega))) | (with_reducible refine Below.setCell ?_ ?_ _; rotate_left; (focus (first | (simp; done) | (simp; omega) | omega))))); (first | with_reducible exact Below.refl _ _ | with_reducible assumption)))
  obtain ⟨w0, ew0⟩ : ∃ w0, w0 = ((w.alloc (.cells #[.int .i64 a, .string p, .string m] 23)).alloc (.cells #[.int .i64 b, .string q, .string n] 23)) := ⟨_, rfl⟩
  have hz0 : w0.heap.size = w.heap.size + 2 := by rw [ew0]; simp
  rw [← ew0] at ca0z ca1z ca2z cb0z cb1z cb2z hB0
  have hz1 := Lib.hid hz0
  have EW := Lib.hid ew0
  clear hz0 ew0
  go_enter Try.func4, Try.ntmps4
  go_wp2_with fail
  rw [← EW.out]
  refine (live_any _).mono ?_
  rintro e w1 ⟨rfl, hb⟩
  have hs1 := hb.size
  rw [hz1.out] at hs1
  have hB : Below (w.heap.size + 2) w0 w1 := hb.mono (by rw [hz1.out]; omega)
  clear hb
  obtain ⟨kk, -⟩ := bat hB (b := w.heap.size) (by omega)
  have ca0w1 := (kk 0).trans ca0z
  have ca1w1 := (kk 1).trans ca1z
  have ca2w1 := (kk 2).trans ca2z
  clear kk
  obtain ⟨kk, -⟩ := bat hB (b := w.heap.size + 1) (by omega)
  have cb0w1 := (kk 0).trans cb0z
  have cb1w1 := (kk 1).trans cb1z
  have cb2w1 := (kk 2).trans cb2z
  clear kk
  go_wp2_with fail
  refine (add_any _ _ _ _ _ _ _ hp hm hq hn).mono ?_
  intro e w2 h2
  obtain ⟨x, e, hx, rfl, hb⟩ := h2.below
  clear h2 ca0w1 ca1w1 ca2w1 cb0w1 cb1w1 cb2w1
  have hs2 := hb.size
  replace hB : Below (w.heap.size + 2) w0 w2 := below_tr hb hB (by omega)
  clear hb
  obtain ⟨kk, -⟩ := bat hB (b := w.heap.size) (by omega)
  have ca0w2 := (kk 0).trans ca0z
  have ca1w2 := (kk 1).trans ca1z
  have ca2w2 := (kk 2).trans ca2z
  clear kk
  obtain ⟨kk, -⟩ := bat hB (b := w.heap.size + 1) (by omega)
  have cb0w2 := (kk 0).trans cb0z
  have cb1w2 := (kk 1).trans cb1z
  have cb2w2 := (kk 2).trans cb2z
  clear kk
  have l2a : w.heap.size < w2.heap.size := by omega
  have l2b : w.heap.size + 1 < w2.heap.size := by omega
  have HX := Lib.hid hx
  clear hx
  go_wp2_with fail
  refine (add_any _ _ _ _ _ _ _ hq hn hp hm).mono ?_
  intro e w3 h3
  obtain ⟨y, f, hy, rfl, hb⟩ := h3.below
  clear h3 ca0w2 ca1w2 ca2w2 cb0w2 cb1w2 cb2w2
  rw [addF_comm, HX.out] at hy
  injection hy with hy hf
  subst hy
  subst hf
  obtain ⟨kk, -⟩ := bat hb (b := w2.heap.size) (by simp)
  have cx0 : w3.cell? ⟨w2.heap.size, 0, none⟩ = some (.int .i64 x.add) := by rw [kk]; go_simp
  have cx1 : w3.cell? ⟨w2.heap.size, 1, none⟩ = some (.string x.plus) := by rw [kk]; go_simp
  have cx2 : w3.cell? ⟨w2.heap.size, 2, none⟩ = some (.string x.minus) := by rw [kk]; go_simp
  clear kk
  have hs3 := hb.size
  simp at hs3
  replace hB : Below (w.heap.size + 2) w0 w3 := below_tr hb (by ((repeat (first | with_reducible refine Below.drew ?_ | (with_reducible refine Below.alloc ?_ ?_ _; rotate_left; (focus (first | (simp; done) | (simp; omega) | omega))) | (with_reducible refine Below.setCell ?_ ?_ _; rotate_left; (focus (first | (simp; done) | (simp; omega) | omega))))); (first | with_reducible exact Below.refl _ _ | with_reducible assumption))) (by simp; omega)
  clear hb
  obtain ⟨kk, -⟩ := bat hB (b := w.heap.size) (by omega)
  have ca0w3 := (kk 0).trans ca0z
  have ca1w3 := (kk 1).trans ca1z
  have ca2w3 := (kk 2).trans ca2z
  clear kk
  obtain ⟨kk, -⟩ := bat hB (b := w.heap.size + 1) (by omega)
  have cb0w3 := (kk 0).trans cb0z
  have cb1w3 := (kk 1).trans cb1z
  have cb2w3 := (kk 2).trans cb2z
  clear kk
  have l3a : w.heap.size < w3.heap.size := by omega
  have l3b : w.heap.size + 1 < w3.heap.size := by omega
  have l3x : w2.heap.size < w3.heap.size := by omega
  have n3a1 : w.heap.size < w3.heap.size + 1 := by omega
  have o3a1 : w.heap.size ≤ w3.heap.size := by omega
  have n3a2 : w.heap.size < w3.heap.size + 1 + 1 := by omega
  have o3a2 : w.heap.size ≤ w3.heap.size + 1 := by omega
  have n3a3 : w.heap.size < w3.heap.size + 1 + 1 + 1 := by omega
  have o3a3 : w.heap.size ≤ w3.heap.size + 1 + 1 := by omega
  have n3a4 : w.heap.size < w3.heap.size + 1 + 1 + 1 + 1 := by omega
  have o3a4 : w.heap.size ≤ w3.heap.size + 1 + 1 + 1 := by omega
  go_upto_region 7 with fail
  go_cut [9, 10] (fun s9 s10 wx => ∃ zb : Nat, s9 = .pointer (some ⟨zb, 0, none⟩) ∧ s10 = .int .i64 0 ∧ wx.cell? ⟨zb, 0, none⟩ = some (.int .i64 0) ∧ wx.cell? ⟨zb, 1, none⟩ = some (.string ⟨#[]⟩) ∧ wx.cell? ⟨zb, 2, none⟩ = some (.string ⟨#[]⟩) ∧ Below (w.heap.size + 2) w0 wx ∧ zb < wx.heap.size)
  case first =>
    go_region_with (first | (go_at_call 12; refine (neg_any _ _ _ _).mono ?_; rintro e w1 ⟨rfl, o1, o2, rfl⟩) | (go_at_call 8; refine (add_any _ _ _ _ _ _ _ hp hm hm hp).mono ?_; intro e w4 h4; obtain ⟨z, g, hz, rfl, hb⟩ := h4.below; clear h4; rw [addF_neg] at hz; injection hz with hz hg; subst hz; subst hg; have hs4 := hb.size; simp at hs4; have hB4 : Below (w.heap.size + 2) w0 w4 := below_tr hb (by ((repeat (first | with_reducible refine Below.drew ?_ | (with_reducible refine Below.alloc ?_ ?_ _; rotate_left; (focus (first | (simp; done) | (simp; omega) | omega))) | (with_reducible refine Below.setCell ?_ ?_ _; rotate_left; (focus (first | (simp; done) | (simp; omega) | omega))))); (first | with_reducible exact Below.refl _ _ | with_reducible assumption))) (by (first | (simp; done) | (simp; omega) | omega)); obtain ⟨k5, f5⟩ := bcell hb; clear hb; have l5 : w3.heap.size < w4.heap.size := (by omega); have l4a : w.heap.size < w4.heap.size := (by omega); have l4b : w.heap.size + 1 < w4.heap.size := (by omega)))
    all_goals
      go_wp2_with fail
      go_meet
      exact ⟨_, rfl, rfl, by go_simp; rfl, by go_simp; rfl, by go_simp; rfl, (by ((repeat (first | with_reducible refine Below.drew ?_ | (with_reducible refine Below.alloc ?_ ?_ _; rotate_left; (focus (first | (simp; done) | (simp; omega) | omega))) | (with_reducible refine Below.setCell ?_ ?_ _; rotate_left; (focus (first | (simp; done) | (simp; omega) | omega))))); (first | with_reducible exact Below.refl _ _ | with_reducible assumption))), (by (first | (simp; done) | (simp; omega) | omega))⟩
  case rest =>
    obtain ⟨zb, rfl, rfl, z0, z1, z2, hB, hzb⟩ := hcut
    have hsc := hB.size
    rw [hz1.out] at hsc
    obtain ⟨kk, -⟩ := bat hB (b := w.heap.size) (by omega)
    have ca0wc := (kk 0).trans ca0z
    have ca1wc := (kk 1).trans ca1z
    have ca2wc := (kk 2).trans ca2z
    clear kk
    obtain ⟨kk, -⟩ := bat hB (b := w.heap.size + 1) (by omega)
    have cb0wc := (kk 0).trans cb0z
    have cb1wc := (kk 1).trans cb1z
    have cb2wc := (kk 2).trans cb2z
    clear kk
    go_wp2_with fail
    refine (add_any _ _ _ _ _ _ _ (by decide) (by decide) (by decide) (by decide)).mono ?_
    intro e w5 h5
    obtain ⟨nn, h, hy, rfl, hb⟩ := h5.below
    clear h5 ca0wc ca1wc ca2wc cb0wc cb1wc cb2wc
    rw [addF_num] at hy
    injection hy with hy hf
    subst hy
    subst hf
    obtain ⟨kk, -⟩ := bat hb (b := zb) hzb
    have y0 := (kk 0).trans z0
    have y1 := (kk 1).trans z1
    have y2 := (kk 2).trans z2
    clear kk
    have hs5 := hb.size
    replace hB : Below (w.heap.size + 2) w0 w5 := below_tr hb hB (by omega)
    clear hb
    obtain ⟨kk, -⟩ := bat hB (b := w.heap.size) (by omega)
    have ca0w5 := (kk 0).trans ca0z
    have ca1w5 := (kk 1).trans ca1z
    have ca2w5 := (kk 2).trans ca2z
    clear kk
    obtain ⟨kk, -⟩ := bat hB (b := w.heap.size + 1) (by omega)
    have cb0w5 := (kk 0).trans cb0z
    have cb1w5 := (kk 1).trans cb1z
    have cb2w5 := (kk 2).trans cb2z
    clear kk
    have l5z : zb < w5.heap.size := by omega
    have l5a : w.heap.size < w5.heap.size := by omega
    have l5b : w.heap.size + 1 < w5.heap.size := by omega
    go_wp2_with fail
    go_ret
    have hBB : Below w.heap.size w w5 := hB0.trans (hB.mono (by omega))
    exact ⟨rfl, (by ((repeat (first | with_reducible refine Below.drew ?_ | (with_reducible refine Below.alloc ?_ ?_ _; rotate_left; (focus (first | (simp; done) | (simp; omega) | omega))) | (with_reducible refine Below.setCell ?_ ?_ _; rotate_left; (focus (first | (simp; done) | (simp; omega) | omega))))); (first | with_reducible exact Below.refl _ _ | with_reducible assumption)))⟩

end Go.Proofs.Ythhlghoeapjagaa
