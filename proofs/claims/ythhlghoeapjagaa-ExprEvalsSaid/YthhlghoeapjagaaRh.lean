/- Contract of two of package cooperref09. -/
import Derived.Test.YthhlghoeapjagaaRg
set_option linter.unusedVariables false
set_option linter.unusedSimpArgs false
namespace Go.Proofs.Ythhlghoeapjagaa
open Go.RowKit
attribute [local go_sem ↓] Go.wp_at_zero Go.wp_at_succ

theorem rtwo_add (a : Int) (p m : ByteArray) (b : Int) (q n : ByteArray) (w : World) :
    Calls Try.prog 40 #[.int .i64 8, .agg #[.int .i64 a, .string p, .string m], .agg #[.int .i64 b, .string q, .string n]] w (ApplyPost 8 ⟨a, p, m⟩ ⟨b, q, n⟩ w) := by
  go_enter Try.func40, Try.ntmps40
  go_wp2_with fail
  refine (radd_any _ _ _ _ _ _ _).mono ?_
  rintro e w1 ⟨r, x, hr, rfl, hb1⟩
  have Hr := Lib.hid hr
  have hs1 := hb1.size
  simp at hs1
  obtain ⟨k0, f0⟩ := bat hb1 (b := w.heap.size + 2) (by simp)
  have hB1 : Below w.heap.size w w1 := Below.trans ((by ((repeat (first | with_reducible refine Below.drew ?_ | (with_reducible refine Below.alloc ?_ ?_ _; rotate_left; (focus (first | (simp; done) | (simp; omega) | omega))) | (with_reducible refine Below.setCell ?_ ?_ _; rotate_left; (focus (first | (simp; done) | (simp; omega) | omega))))); (first | with_reducible exact Below.refl _ _ | with_reducible assumption))) : Below w.heap.size w _) (hb1.mono (by (first | (simp; done) | (simp; omega) | omega)))
  clear hr hb1
  go_wp2_with fail
  exact bodyPost_ret (v := .tuple #[.agg #[.int .i64 r.add, .string r.plus, .string r.minus], .int .i64 x]) (by simp [results, Try.results40, go_sem, k0]) rfl (ApplyPost.mk (by rw [applyF_add]; exact Hr.out) (by ((repeat (first | with_reducible refine Below.drew ?_ | (with_reducible refine Below.alloc ?_ ?_ _; rotate_left; (focus (first | (simp; done) | (simp; omega) | omega))) | (with_reducible refine Below.setCell ?_ ?_ _; rotate_left; (focus (first | (simp; done) | (simp; omega) | omega))))); (first | with_reducible exact Below.refl _ _ | with_reducible assumption))))

theorem rtwo_sub (a : Int) (p m : ByteArray) (b : Int) (q n : ByteArray) (w : World) :
    Calls Try.prog 40 #[.int .i64 9, .agg #[.int .i64 a, .string p, .string m], .agg #[.int .i64 b, .string q, .string n]] w (ApplyPost 9 ⟨a, p, m⟩ ⟨b, q, n⟩ w) := by
  go_enter Try.func40, Try.ntmps40
  go_wp2_with fail
  go_region_with (first | (go_at_call 13; refine (rneg_any _ _ _ _).mono ?_; rintro e w1 ⟨rfl, o1, o2, rfl⟩) | (go_at_call 9; refine (radd_any _ _ _ _ _ _ _).mono ?_; rintro e w1 ⟨r, x, hr, rfl, hb1⟩; have Hr := Lib.hid hr; have hs1 := hb1.size; simp at hs1; obtain ⟨k0, f0⟩ := bat hb1 (b := w.heap.size + 2) (by simp); have hB1 := Below.trans ((by ((repeat (first | with_reducible refine Below.drew ?_ | (with_reducible refine Below.alloc ?_ ?_ _; rotate_left; (focus (first | (simp; done) | (simp; omega) | omega))) | (with_reducible refine Below.setCell ?_ ?_ _; rotate_left; (focus (first | (simp; done) | (simp; omega) | omega))))); (first | with_reducible exact Below.refl _ _ | with_reducible assumption))) : Below w.heap.size w _) (hb1.mono (by (first | (simp; done) | (simp; omega) | omega))); clear hr hb1))
  all_goals go_wp2_with fail
  all_goals (exact bodyPost_ret (v := .tuple #[.agg #[.int .i64 r.add, .string r.plus, .string r.minus], .int .i64 x]) (by simp [results, Try.results40, go_sem, k0]) rfl (ApplyPost.mk (by rw [applyF_sub]; exact Hr.out) (by ((repeat (first | with_reducible refine Below.drew ?_ | (with_reducible refine Below.alloc ?_ ?_ _; rotate_left; (focus (first | (simp; done) | (simp; omega) | omega))) | (with_reducible refine Below.setCell ?_ ?_ _; rotate_left; (focus (first | (simp; done) | (simp; omega) | omega))))); (first | with_reducible exact Below.refl _ _ | with_reducible assumption)))))

theorem rtwo_num (k : Int) (hk : 5 ≤ k ∧ k ≤ 14 ∧ ¬ k = 8 ∧ ¬ k = 9) (a b : Val) (w : World) :
    Calls Try.prog 40 #[.int .i64 k, .agg #[.int .i64 a.add, .string a.plus, .string a.minus], .agg #[.int .i64 b.add, .string b.plus, .string b.minus]] w (ApplyPost k a b w) := by
  have k3 : (k == 3) = false := by simp; omega
  have k4 : (k == 4) = false := by simp; omega
  have k8 : (k == 8) = false := by simp; omega
  have k9 : (k == 9) = false := by simp; omega
  by_cases ha1 : a.plus.toList = []
  · by_cases ha2 : a.minus.toList = []
    · by_cases hb1 : b.plus.toList = []
      · by_cases hb2 : b.minus.toList = []
        · have hx := Lib.hid (applyF_num k3 k4 k8 k9 (a := a) (b := b) (by simp [plainB, ← ba_emp, ha1, ha2]) (by simp [plainB, ← ba_emp, hb1, hb2]))
          have e1 : a.plus.toList.isEmpty = true := by rw [ha1]; rfl
          have e2 : a.minus.toList.isEmpty = true := by rw [ha2]; rfl
          have e3 : b.plus.toList.isEmpty = true := by rw [hb1]; rfl
          have e4 : b.minus.toList.isEmpty = true := by rw [hb2]; rfl
          go_enter Try.func40, Try.ntmps40
          go_wp2_with (first | (go_at_call 56; refine (rnumbers_any _ _ _ _ hk).mono ?_; rintro e w1 ⟨rfl, rfl⟩))
          exact bodyPost_ret (v := .tuple #[.agg #[.int .i64 (numF k a.add b.add).1, .string ⟨#[]⟩, .string ⟨#[]⟩], .int .i64 (numF k a.add b.add).2]) (by simp [results, Try.results40, go_sem]) rfl (ApplyPost.mk hx.out (by ((repeat (first | with_reducible refine Below.drew ?_ | (with_reducible refine Below.alloc ?_ ?_ _; rotate_left; (focus (first | (simp; done) | (simp; omega) | omega))) | (with_reducible refine Below.setCell ?_ ?_ _; rotate_left; (focus (first | (simp; done) | (simp; omega) | omega))))); (first | with_reducible exact Below.refl _ _ | with_reducible assumption))))
        · have hx := Lib.hid (applyF_num_bad k3 k4 k8 k9 (a := a) (b := b) (.inr (by simp [plainB, ← ba_emp, hb2])))
          have e1 : a.plus.toList.isEmpty = true := by rw [ha1]; rfl
          have e2 : a.minus.toList.isEmpty = true := by rw [ha2]; rfl
          have e3 : b.plus.toList.isEmpty = true := by rw [hb1]; rfl
          have e4 : b.minus.toList.isEmpty = false := by simpa using hb2
          go_enter Try.func40, Try.ntmps40
          go_wp2_with fail
          exact bodyPost_ret (v := .tuple #[.agg #[.int .i64 0, .string ⟨#[]⟩, .string ⟨#[]⟩], .int .i64 91]) (by simp [results, Try.results40, go_sem]) rfl (ApplyPost.mk hx.out (by ((repeat (first | with_reducible refine Below.drew ?_ | (with_reducible refine Below.alloc ?_ ?_ _; rotate_left; (focus (first | (simp; done) | (simp; omega) | omega))) | (with_reducible refine Below.setCell ?_ ?_ _; rotate_left; (focus (first | (simp; done) | (simp; omega) | omega))))); (first | with_reducible exact Below.refl _ _ | with_reducible assumption))))
      · have hx := Lib.hid (applyF_num_bad k3 k4 k8 k9 (a := a) (b := b) (.inr (by simp [plainB, ← ba_emp, hb1])))
        have e1 : a.plus.toList.isEmpty = true := by rw [ha1]; rfl
        have e2 : a.minus.toList.isEmpty = true := by rw [ha2]; rfl
        have e3 : b.plus.toList.isEmpty = false := by simpa using hb1
        go_enter Try.func40, Try.ntmps40
        go_wp2_with fail
        exact bodyPost_ret (v := .tuple #[.agg #[.int .i64 0, .string ⟨#[]⟩, .string ⟨#[]⟩], .int .i64 91]) (by simp [results, Try.results40, go_sem]) rfl (ApplyPost.mk hx.out (by ((repeat (first | with_reducible refine Below.drew ?_ | (with_reducible refine Below.alloc ?_ ?_ _; rotate_left; (focus (first | (simp; done) | (simp; omega) | omega))) | (with_reducible refine Below.setCell ?_ ?_ _; rotate_left; (focus (first | (simp; done) | (simp; omega) | omega))))); (first | with_reducible exact Below.refl _ _ | with_reducible assumption))))
    · have hx := Lib.hid (applyF_num_bad k3 k4 k8 k9 (a := a) (b := b) (.inl (by simp [plainB, ← ba_emp, ha2])))
      have e1 : a.plus.toList.isEmpty = true := by rw [ha1]; rfl
      have e2 : a.minus.toList.isEmpty = false := by simpa using ha2
      go_enter Try.func40, Try.ntmps40
      go_wp2_with fail
      exact bodyPost_ret (v := .tuple #[.agg #[.int .i64 0, .string ⟨#[]⟩, .string ⟨#[]⟩], .int .i64 91]) (by simp [results, Try.results40, go_sem]) rfl (ApplyPost.mk hx.out (by ((repeat (first | with_reducible refine Below.drew ?_ | (with_reducible refine Below.alloc ?_ ?_ _; rotate_left; (focus (first | (simp; done) | (simp; omega) | omega))) | (with_reducible refine Below.setCell ?_ ?_ _; rotate_left; (focus (first | (simp; done) | (simp; omega) | omega))))); (first | with_reducible exact Below.refl _ _ | with_reducible assumption))))
  · have hx := Lib.hid (applyF_num_bad k3 k4 k8 k9 (a := a) (b := b) (.inl (by simp [plainB, ← ba_emp, ha1])))
    have e1 : a.plus.toList.isEmpty = false := by simpa using ha1
    go_enter Try.func40, Try.ntmps40
    go_wp2_with fail
    exact bodyPost_ret (v := .tuple #[.agg #[.int .i64 0, .string ⟨#[]⟩, .string ⟨#[]⟩], .int .i64 91]) (by simp [results, Try.results40, go_sem]) rfl (ApplyPost.mk hx.out (by ((repeat (first | with_reducible refine Below.drew ?_ | (with_reducible refine Below.alloc ?_ ?_ _; rotate_left; (focus (first | (simp; done) | (simp; omega) | omega))) | (with_reducible refine Below.setCell ?_ ?_ _; rotate_left; (focus (first | (simp; done) | (simp; omega) | omega))))); (first | with_reducible exact Below.refl _ _ | with_reducible assumption))))

theorem rtwo_any (k : Int) (hk : 5 ≤ k ∧ k ≤ 14) (a b : Val) (w : World) :
    Calls Try.prog 40 #[.int .i64 k, .agg #[.int .i64 a.add, .string a.plus, .string a.minus], .agg #[.int .i64 b.add, .string b.plus, .string b.minus]] w (ApplyPost k a b w) := by
  by_cases h8 : k = 8
  · subst h8; exact rtwo_add _ _ _ _ _ _ _
  by_cases h9 : k = 9
  · subst h9; exact rtwo_sub _ _ _ _ _ _ _
  exact rtwo_num k ⟨hk.1, hk.2, h8, h9⟩ a b w

end Go.Proofs.Ythhlghoeapjagaa
