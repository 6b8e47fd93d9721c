/- Contracts of the reference's clear, one, Neg, Add (package cooperref09): they compute what package expr computes. -/
import Derived.Test.YthhlghoeapjagaaEa
import Derived.Test.YthhlghoeapjagaaPlain5
set_option linter.unusedVariables false
set_option linter.unusedSimpArgs false
namespace Go.Proofs.Ythhlghoeapjagaa
open Go.RowKit

set_option maxHeartbeats 400000 in
theorem rneg_any (a : Int) (p m : ByteArray) (w : World) :
    Calls Try.prog 13 #[.agg #[.int .i64 a, .string p, .string m]] w fun e w' => e = .returned (.agg #[.int .i64 (wrap64 (-a)), .string m, .string p]) ∧ ∃ o1 o2, w' = (w.alloc o1).alloc o2 := by
  go_enter Try.func13, Try.ntmps13
  go_wp2
  exact bodyPost_ret (v := .agg #[.int .i64 (wrap64 (-a)), .string m, .string p]) (by simp [results, Try.results13, go_sem]) rfl ⟨rfl, _, _, rfl⟩

set_option maxHeartbeats 400000 in
theorem rclear_any (a : Int) (p m : ByteArray) (w : World) :
    Calls Try.prog 30 #[.agg #[.int .i64 a, .string p, .string m]] w fun e w' => ∃ r o1 o2, Hid (clearF ⟨a, p, m⟩ = r) ∧ e = .returned (.agg #[.int .i64 r.add, .string r.plus, .string r.minus]) ∧ w' = (w.alloc o1).alloc o2 := by
  by_cases h : p = m
  · subst h
    go_enter Try.func30, Try.ntmps30
    go_wp2
    exact bodyPost_ret (v := .agg #[.int .i64 a, .string emp, .string emp]) (by simp [results, Try.results30, go_sem, emp]) rfl ⟨⟨a, emp, emp⟩, _, _, show clearF _ = _ by simp [clearF], rfl, rfl⟩
  · have h' : (p.toList == m.toList) = false := by simpa [ba_iff] using h
    go_enter Try.func30, Try.ntmps30
    go_wp2
    exact bodyPost_ret (v := .agg #[.int .i64 a, .string p, .string m]) (by simp [results, Try.results30, go_sem]) rfl ⟨⟨a, p, m⟩, _, _, show clearF _ = _ by simp [clearF, h], rfl, rfl⟩

set_option maxHeartbeats 400000 in
theorem one_any (a b : ByteArray) (w : World) :
    Calls Try.prog 31 #[.string a, .string b] w fun e w' => ∃ s x, Hid (oneF a b = (s, x)) ∧ e = .returned (.tuple #[.string s, .bool x]) ∧ w = w' := by
  by_cases h : a = emp
  · obtain rfl : a = ⟨#[]⟩ := h
    go_enter Try.func31, Try.ntmps31
    go_wp2
    go_ret2
    exact ⟨b, true, show oneF emp _ = _ by simp [oneF], rfl, rfl⟩
  · have h1 := mt ba_emp.1 h
    have h2 : a.toList.isEmpty = false := by simpa using h1
    go_enter Try.func31, Try.ntmps31
    go_wp2
    go_ret2
    exact ⟨a, b.toList.isEmpty, show oneF _ _ = _ by simp [oneF, h, isEmpty_emp], rfl, rfl⟩

def AddB (A B : Val) (w : World) (e : Ending) (w' : World) : Prop :=
  ∃ r x, addF A B = (r, x) ∧ e = .returned (.tuple #[.agg #[.int .i64 r.add, .string r.plus, .string r.minus], .int .i64 x]) ∧ Below w.heap.size w w'
theorem AddB.mk {A B : Val} {w w' : World} {a : Int} {p m : ByteArray} {x : Int} (h : addF A B = (⟨a, p, m⟩, x)) (hb : Below w.heap.size w w') :
    AddB A B w (.returned (.tuple #[.agg #[.int .i64 a, .string p, .string m], .int .i64 x])) w' := ⟨_, _, h, rfl, hb⟩

set_option maxRecDepth 100000 in
set_option maxHeartbeats 2000000 in
theorem radd_any (a : Int) (p m : ByteArray) (b : Int) (q n : ByteArray) (w : World) :
    Calls Try.prog 9 #[.agg #[.int .i64 a, .string p, .string m], .agg #[.int .i64 b, .string q, .string n]] w (AddB ⟨a, p, m⟩ ⟨b, q, n⟩ w) := by
  go_enter Try.func9, Try.ntmps9
  go_wp2_with fail
  refine (rclear_any _ _ _ _).mono ?_
  rintro e w1 ⟨r1, o1, o2, hr1, rfl, rfl⟩
  go_wp2_with fail
  refine (rclear_any _ _ _ _).mono ?_
  rintro e w1 ⟨r2, o3, o4, hr2, rfl, rfl⟩
  obtain ⟨p1, m2, h1⟩ : ∃ p1 m2, meetF r1.plus r2.minus = (p1, m2) := ⟨_, _, rfl⟩
  obtain ⟨m1, p2, h2⟩ : ∃ m1 p2, meetF r1.minus r2.plus = (m1, p2) := ⟨_, _, rfl⟩
  have H1 := Lib.hid h1
  have H2 := Lib.hid h2
  by_cases e1 : r1.plus = r2.minus
  · skip
    have e1' : (r1.plus.toList == r2.minus.toList) = true := by simp [e1]
    rw [meetF, if_pos e1] at h1
    injection h1 with g1 g2
    subst g1 g2
    clear e1
    by_cases e2 : r1.minus = r2.plus
    · skip
      have e2' : (r1.minus.toList == r2.plus.toList) = true := by simp [e2]
      rw [meetF, if_pos e2] at h2
      injection h2 with g1 g2
      subst g1 g2
      clear e2
      go_wp2_with fail
      refine (one_any _ _ _).mono ?_
      rintro e w1 ⟨t1, x1, ho1, rfl, rfl⟩
      go_wp2_with fail
      refine (one_any _ _ _).mono ?_
      rintro e w1 ⟨t2, x2, ho2, rfl, rfl⟩
      cases x1 with
      | false =>
        go_wp2_with fail
        exact bodyPost_ret (v := .tuple #[.agg #[.int .i64 0, .string ⟨#[]⟩, .string ⟨#[]⟩], .int .i64 91]) (by simp [results, Try.results9, go_sem]) rfl (AddB.mk (addF_one_bad hr1.out hr2.out H1.out H2.out ho1.out ho2.out (.inl rfl)) (by ((repeat (first | with_reducible refine Below.drew ?_ | (with_reducible refine Below.alloc ?_ ?_ _; rotate_left; (focus (first | (simp; done) | (simp; omega) | omega))) | (with_reducible refine Below.setCell ?_ ?_ _; rotate_left; (focus (first | (simp; done) | (simp; omega) | omega))))); (first | with_reducible exact Below.refl _ _ | with_reducible assumption))))
      | true =>
        cases x2 with
        | false =>
          go_wp2_with fail
          exact bodyPost_ret (v := .tuple #[.agg #[.int .i64 0, .string ⟨#[]⟩, .string ⟨#[]⟩], .int .i64 91]) (by simp [results, Try.results9, go_sem]) rfl (AddB.mk (addF_one_bad hr1.out hr2.out H1.out H2.out ho1.out ho2.out (.inr rfl)) (by ((repeat (first | with_reducible refine Below.drew ?_ | (with_reducible refine Below.alloc ?_ ?_ _; rotate_left; (focus (first | (simp; done) | (simp; omega) | omega))) | (with_reducible refine Below.setCell ?_ ?_ _; rotate_left; (focus (first | (simp; done) | (simp; omega) | omega))))); (first | with_reducible exact Below.refl _ _ | with_reducible assumption))))
        | true =>
          go_wp2_with fail
          exact bodyPost_ret (v := .tuple #[.agg #[.int .i64 (wrap64 (r1.add + r2.add)), .string t1, .string t2], .int .i64 0]) (by simp [results, Try.results9, go_sem]) rfl (AddB.mk (addF_one_ok hr1.out hr2.out H1.out H2.out ho1.out ho2.out) (by ((repeat (first | with_reducible refine Below.drew ?_ | (with_reducible refine Below.alloc ?_ ?_ _; rotate_left; (focus (first | (simp; done) | (simp; omega) | omega))) | (with_reducible refine Below.setCell ?_ ?_ _; rotate_left; (focus (first | (simp; done) | (simp; omega) | omega))))); (first | with_reducible exact Below.refl _ _ | with_reducible assumption))))
    · skip
      have e2' : (r1.minus.toList == r2.plus.toList) = false := by simpa [ba_iff] using e2
      rw [meetF, if_neg e2] at h2
      injection h2 with g1 g2
      subst g1 g2
      go_wp2_with fail
      refine (one_any _ _ _).mono ?_
      rintro e w1 ⟨t1, x1, ho1, rfl, rfl⟩
      go_wp2_with fail
      refine (one_any _ _ _).mono ?_
      rintro e w1 ⟨t2, x2, ho2, rfl, rfl⟩
      cases x1 with
      | false =>
        go_wp2_with fail
        exact bodyPost_ret (v := .tuple #[.agg #[.int .i64 0, .string ⟨#[]⟩, .string ⟨#[]⟩], .int .i64 91]) (by simp [results, Try.results9, go_sem]) rfl (AddB.mk (addF_one_bad hr1.out hr2.out H1.out H2.out ho1.out ho2.out (.inl rfl)) (by ((repeat (first | with_reducible refine Below.drew ?_ | (with_reducible refine Below.alloc ?_ ?_ _; rotate_left; (focus (first | (simp; done) | (simp; omega) | omega))) | (with_reducible refine Below.setCell ?_ ?_ _; rotate_left; (focus (first | (simp; done) | (simp; omega) | omega))))); (first | with_reducible exact Below.refl _ _ | with_reducible assumption))))
      | true =>
        cases x2 with
        | false =>
          go_wp2_with fail
          exact bodyPost_ret (v := .tuple #[.agg #[.int .i64 0, .string ⟨#[]⟩, .string ⟨#[]⟩], .int .i64 91]) (by simp [results, Try.results9, go_sem]) rfl (AddB.mk (addF_one_bad hr1.out hr2.out H1.out H2.out ho1.out ho2.out (.inr rfl)) (by ((repeat (first | with_reducible refine Below.drew ?_ | (with_reducible refine Below.alloc ?_ ?_ _; rotate_left; (focus (first | (simp; done) | (simp; omega) | omega))) | (with_reducible refine Below.setCell ?_ ?_ _; rotate_left; (focus (first | (simp; done) | (simp; omega) | omega))))); (first | with_reducible exact Below.refl _ _ | with_reducible assumption))))
        | true =>
          go_wp2_with fail
          exact bodyPost_ret (v := .tuple #[.agg #[.int .i64 (wrap64 (r1.add + r2.add)), .string t1, .string t2], .int .i64 0]) (by simp [results, Try.results9, go_sem]) rfl (AddB.mk (addF_one_ok hr1.out hr2.out H1.out H2.out ho1.out ho2.out) (by ((repeat (first | with_reducible refine Below.drew ?_ | (with_reducible refine Below.alloc ?_ ?_ _; rotate_left; (focus (first | (simp; done) | (simp; omega) | omega))) | (with_reducible refine Below.setCell ?_ ?_ _; rotate_left; (focus (first | (simp; done) | (simp; omega) | omega))))); (first | with_reducible exact Below.refl _ _ | with_reducible assumption))))
  · skip
    have e1' : (r1.plus.toList == r2.minus.toList) = false := by simpa [ba_iff] using e1
    rw [meetF, if_neg e1] at h1
    injection h1 with g1 g2
    subst g1 g2
    by_cases e2 : r1.minus = r2.plus
    · skip
      have e2' : (r1.minus.toList == r2.plus.toList) = true := by simp [e2]
      rw [meetF, if_pos e2] at h2
      injection h2 with g1 g2
      subst g1 g2
      clear e2
      go_wp2_with fail
      refine (one_any _ _ _).mono ?_
      rintro e w1 ⟨t1, x1, ho1, rfl, rfl⟩
      go_wp2_with fail
      refine (one_any _ _ _).mono ?_
      rintro e w1 ⟨t2, x2, ho2, rfl, rfl⟩
      cases x1 with
      | false =>
        go_wp2_with fail
        exact bodyPost_ret (v := .tuple #[.agg #[.int .i64 0, .string ⟨#[]⟩, .string ⟨#[]⟩], .int .i64 91]) (by simp [results, Try.results9, go_sem]) rfl (AddB.mk (addF_one_bad hr1.out hr2.out H1.out H2.out ho1.out ho2.out (.inl rfl)) (by ((repeat (first | with_reducible refine Below.drew ?_ | (with_reducible refine Below.alloc ?_ ?_ _; rotate_left; (focus (first | (simp; done) | (simp; omega) | omega))) | (with_reducible refine Below.setCell ?_ ?_ _; rotate_left; (focus (first | (simp; done) | (simp; omega) | omega))))); (first | with_reducible exact Below.refl _ _ | with_reducible assumption))))
      | true =>
        cases x2 with
        | false =>
          go_wp2_with fail
          exact bodyPost_ret (v := .tuple #[.agg #[.int .i64 0, .string ⟨#[]⟩, .string ⟨#[]⟩], .int .i64 91]) (by simp [results, Try.results9, go_sem]) rfl (AddB.mk (addF_one_bad hr1.out hr2.out H1.out H2.out ho1.out ho2.out (.inr rfl)) (by ((repeat (first | with_reducible refine Below.drew ?_ | (with_reducible refine Below.alloc ?_ ?_ _; rotate_left; (focus (first | (simp; done) | (simp; omega) | omega))) | (with_reducible refine Below.setCell ?_ ?_ _; rotate_left; (focus (first | (simp; done) | (simp; omega) | omega))))); (first | with_reducible exact Below.refl _ _ | with_reducible assumption))))
        | true =>
          go_wp2_with fail
          exact bodyPost_ret (v := .tuple #[.agg #[.int .i64 (wrap64 (r1.add + r2.add)), .string t1, .string t2], .int .i64 0]) (by simp [results, Try.results9, go_sem]) rfl (AddB.mk (addF_one_ok hr1.out hr2.out H1.out H2.out ho1.out ho2.out) (by ((repeat (first | with_reducible refine Below.drew ?_ | (with_reducible refine Below.alloc ?_ ?_ _; rotate_left; (focus (first | (simp; done) | (simp; omega) | omega))) | (with_reducible refine Below.setCell ?_ ?_ _; rotate_left; (focus (first | (simp; done) | (simp; omega) | omega))))); (first | with_reducible exact Below.refl _ _ | with_reducible assumption))))
    · skip
      have e2' : (r1.minus.toList == r2.plus.toList) = false := by simpa [ba_iff] using e2
      rw [meetF, if_neg e2] at h2
      injection h2 with g1 g2
      subst g1 g2
      go_wp2_with fail
      refine (one_any _ _ _).mono ?_
      rintro e w1 ⟨t1, x1, ho1, rfl, rfl⟩
      go_wp2_with fail
      refine (one_any _ _ _).mono ?_
      rintro e w1 ⟨t2, x2, ho2, rfl, rfl⟩
      cases x1 with
      | false =>
        go_wp2_with fail
        exact bodyPost_ret (v := .tuple #[.agg #[.int .i64 0, .string ⟨#[]⟩, .string ⟨#[]⟩], .int .i64 91]) (by simp [results, Try.results9, go_sem]) rfl (AddB.mk (addF_one_bad hr1.out hr2.out H1.out H2.out ho1.out ho2.out (.inl rfl)) (by ((repeat (first | with_reducible refine Below.drew ?_ | (with_reducible refine Below.alloc ?_ ?_ _; rotate_left; (focus (first | (simp; done) | (simp; omega) | omega))) | (with_reducible refine Below.setCell ?_ ?_ _; rotate_left; (focus (first | (simp; done) | (simp; omega) | omega))))); (first | with_reducible exact Below.refl _ _ | with_reducible assumption))))
      | true =>
        cases x2 with
        | false =>
          go_wp2_with fail
          exact bodyPost_ret (v := .tuple #[.agg #[.int .i64 0, .string ⟨#[]⟩, .string ⟨#[]⟩], .int .i64 91]) (by simp [results, Try.results9, go_sem]) rfl (AddB.mk (addF_one_bad hr1.out hr2.out H1.out H2.out ho1.out ho2.out (.inr rfl)) (by ((repeat (first | with_reducible refine Below.drew ?_ | (with_reducible refine Below.alloc ?_ ?_ _; rotate_left; (focus (first | (simp; done) | (simp; omega) | omega))) | (with_reducible refine Below.setCell ?_ ?_ _; rotate_left; (focus (first | (simp; done) | (simp; omega) | omega))))); (first | with_reducible exact Below.refl _ _ | with_reducible assumption))))
        | true =>
          go_wp2_with fail
          exact bodyPost_ret (v := .tuple #[.agg #[.int .i64 (wrap64 (r1.add + r2.add)), .string t1, .string t2], .int .i64 0]) (by simp [results, Try.results9, go_sem]) rfl (AddB.mk (addF_one_ok hr1.out hr2.out H1.out H2.out ho1.out ho2.out) (by ((repeat (first | with_reducible refine Below.drew ?_ | (with_reducible refine Below.alloc ?_ ?_ _; rotate_left; (focus (first | (simp; done) | (simp; omega) | omega))) | (with_reducible refine Below.setCell ?_ ?_ _; rotate_left; (focus (first | (simp; done) | (simp; omega) | omega))))); (first | with_reducible exact Below.refl _ _ | with_reducible assumption))))

end Go.Proofs.Ythhlghoeapjagaa
