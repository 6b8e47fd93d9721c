/- Contract of apply of package expr. -/
import Derived.Test.YthhlghoeapjagaaEa
import Derived.Test.YthhlghoeapjagaaEb
import Derived.Test.YthhlghoeapjagaaEd
import Derived.Test.YthhlghoeapjagaaPlain2
import Derived.Deep.RegionHeld3
import Derived.Deep.DrawnRows
import Derived.Deep.RegionWith
set_option linter.unusedVariables false
set_option linter.unusedSimpArgs false
namespace Go.Proofs.Ythhlghoeapjagaa
open Go.RowKit
attribute [local go_sem ↓] Go.wp_at_zero Go.wp_at_succ

/-- A slice of values. -/
def Vals (w : World) (B : Nat) (A : Option Addr) (vs : List Val) : Prop := SL w B 3 A vs.length (vs.flatMap Val.cells)

theorem Vals.cells_at {w : World} {B : Nat} {b off : Nat} {vs : List Val} (h : Vals w B (some ⟨b, off, none⟩) vs) {k : Nat} {t : Val} (hk : vs[k]? = some t) :
    b < B ∧ w.cell? ⟨b, off + k * 3, none⟩ = some (.int .i64 t.add) ∧ w.cell? ⟨b, off + k * 3 + 1, none⟩ = some (.string t.plus) ∧ w.cell? ⟨b, off + k * 3 + 2, none⟩ = some (.string t.minus) := by
  have hl : k < vs.length := (List.getElem?_eq_some_iff.1 hk).1
  obtain ⟨b', off', e, hb, hc⟩ := h.2 (by omega)
  injection e with e
  injection e with e1 e2
  subst e1
  subst e2
  have g := fun j hj => flat_get Val.cells 3 (fun _ => rfl) vs k t j hk hj
  refine ⟨hb, ?_, ?_, ?_⟩
  · have := hc (k * 3 + 0) _ ((g 0 (by omega)).trans rfl); simpa using this
  · have := hc (k * 3 + 1) _ ((g 1 (by omega)).trans rfl); simpa [Nat.add_assoc] using this
  · have := hc (k * 3 + 2) _ ((g 2 (by omega)).trans rfl); simpa [Nat.add_assoc] using this

def ApplyPost (k : Int) (a b : Val) (w : World) (e : Ending) (w' : World) : Prop :=
  ∃ r x, applyF k a b = (r, x) ∧ e = .returned (.tuple #[.agg #[.int .i64 r.add, .string r.plus, .string r.minus], .int .i64 x]) ∧ Below w.heap.size w w'

theorem ApplyPost.mk {k : Int} {A B : Val} {w w' : World} {a : Int} {p m : ByteArray} {x : Int} (h : applyF k A B = (⟨a, p, m⟩, x)) (hb : Below w.heap.size w w') :
    ApplyPost k A B w (.returned (.tuple #[.agg #[.int .i64 a, .string p, .string m], .int .i64 x])) w' := ⟨_, _, h, rfl, hb⟩

set_option maxHeartbeats 1000000 in
theorem apply_neg (A : Option Addr) (n cap : Nat) (vs : List Val) (b : Val) (w : World) (hV : Vals w w.heap.size A vs) (hn : vs.length = n) (hb : vs[n - 1]? = some b) (hm : n ≤ maxLen) :
    Calls Try.prog 38 #[.int .i64 3, .slice A n cap] w (ApplyPost 3 zeroV b w) := by
  have hl : n - 1 < n := by have := (List.getElem?_eq_some_iff.1 hb).1; omega
  obtain ⟨bl, off, rfl, -, -⟩ := hV.2 (by omega)
  obtain ⟨hbl, c0, c1, c2⟩ := Vals.cells_at hV hb
  clear hV hn hb
  unfold maxLen at hm
  obtain ⟨q, rfl⟩ : ∃ q, n = q + 1 := ⟨n - 1, by omega⟩
  simp only [Nat.add_sub_cancel] at c0 c1 c2
  go_enter Try.func38, Try.ntmps38
  go_wp2_with (first | (go_at_call 12; refine (neg_any _ _ _ _).mono ?_; rintro e w1 ⟨rfl, o1, o2, rfl⟩))
  exact bodyPost_ret (v := .tuple #[.agg #[.int .i64 (wrap64 (-b.add)), .string b.minus, .string b.plus], .int .i64 0]) (by simp [results, Try.results38, go_sem]) rfl (ApplyPost.mk (by simp [applyF, negF]) (by ((repeat (first | with_reducible refine Below.drew ?_ | (with_reducible refine Below.alloc ?_ ?_ _; rotate_left; (focus (first | (simp; done) | (simp; omega) | omega))) | (with_reducible refine Below.setCell ?_ ?_ _; rotate_left; (focus (first | (simp; done) | (simp; omega) | omega))))); (first | with_reducible exact Below.refl _ _ | with_reducible assumption))))

set_option maxHeartbeats 1000000 in
theorem apply_not (A : Option Addr) (n cap : Nat) (vs : List Val) (b : Val) (w : World) (hV : Vals w w.heap.size A vs) (hn : vs.length = n) (hb : vs[n - 1]? = some b) (hm : n ≤ maxLen) :
    Calls Try.prog 38 #[.int .i64 4, .slice A n cap] w (ApplyPost 4 zeroV b w) := by
  have hl : n - 1 < n := by have := (List.getElem?_eq_some_iff.1 hb).1; omega
  obtain ⟨bl, off, rfl, -, -⟩ := hV.2 (by omega)
  obtain ⟨hbl, c0, c1, c2⟩ := Vals.cells_at hV hb
  clear hV hn hb
  unfold maxLen at hm
  obtain ⟨q, rfl⟩ : ∃ q, n = q + 1 := ⟨n - 1, by omega⟩
  simp only [Nat.add_sub_cancel] at c0 c1 c2
  by_cases hp : plainB b.plus b.minus = true
  · have hx := Lib.hid (applyF_not zeroV hp)
    go_enter Try.func38, Try.ntmps38
    go_wp2_with (first | (go_at_call 32; refine (plain_any _ _ _ _).mono ?_; rintro e w1 ⟨rfl, o3, rfl⟩))
    exact bodyPost_ret (v := .tuple #[.agg #[.int .i64 (bits .xor .i64 (-1) b.add), .string ⟨#[]⟩, .string ⟨#[]⟩], .int .i64 0]) (by simp [results, Try.results38, go_sem]) rfl (ApplyPost.mk hx.out (by ((repeat (first | with_reducible refine Below.drew ?_ | (with_reducible refine Below.alloc ?_ ?_ _; rotate_left; (focus (first | (simp; done) | (simp; omega) | omega))) | (with_reducible refine Below.setCell ?_ ?_ _; rotate_left; (focus (first | (simp; done) | (simp; omega) | omega))))); (first | with_reducible exact Below.refl _ _ | with_reducible assumption))))
  · have hp' : plainB b.plus b.minus = false := by simpa using hp
    have hx := Lib.hid (applyF_not_bad zeroV hp')
    go_enter Try.func38, Try.ntmps38
    go_wp2_with (first | (go_at_call 32; refine (plain_any _ _ _ _).mono ?_; rintro e w1 ⟨rfl, o3, rfl⟩))
    exact bodyPost_ret (v := .tuple #[.agg #[.int .i64 0, .string ⟨#[]⟩, .string ⟨#[]⟩], .int .i64 91]) (by simp [results, Try.results38, go_sem]) rfl (ApplyPost.mk hx.out (by ((repeat (first | with_reducible refine Below.drew ?_ | (with_reducible refine Below.alloc ?_ ?_ _; rotate_left; (focus (first | (simp; done) | (simp; omega) | omega))) | (with_reducible refine Below.setCell ?_ ?_ _; rotate_left; (focus (first | (simp; done) | (simp; omega) | omega))))); (first | with_reducible exact Below.refl _ _ | with_reducible assumption))))

set_option maxHeartbeats 1000000 in
theorem apply_add (A : Option Addr) (n cap : Nat) (vs : List Val) (a : Val) (b : Val) (w : World) (hV : Vals w w.heap.size A vs) (hn : vs.length = n) (h2 : 2 ≤ n) (ha : vs[n - 2]? = some a) (hb : vs[n - 1]? = some b) (hm : n ≤ maxLen) (s1 : a.plus.size ≤ 140737488355328) (s2 : a.minus.size ≤ 140737488355328) (s3 : b.plus.size ≤ 140737488355328) (s4 : b.minus.size ≤ 140737488355328) :
    Calls Try.prog 38 #[.int .i64 8, .slice A n cap] w (ApplyPost 8 a b w) := by
  have hl : n - 2 < n := by have := (List.getElem?_eq_some_iff.1 ha).1; omega
  obtain ⟨bl, off, rfl, -, -⟩ := hV.2 (by omega)
  obtain ⟨hbl, c0, c1, c2⟩ := Vals.cells_at hV hb
  obtain ⟨_, d0, d1, d2⟩ := Vals.cells_at hV ha
  clear hV hn hb ha
  unfold maxLen at hm
  obtain ⟨q, rfl⟩ : ∃ q, n = q + 2 := ⟨n - 2, by omega⟩
  simp only [Nat.add_sub_cancel, show q + 2 - 1 = q + 1 from rfl] at c0 c1 c2 d0 d1 d2
  go_enter Try.func38, Try.ntmps38
  go_wp2_with (first | (go_at_call 8; refine (add_any _ _ _ _ _ _ _ (by assumption) (by assumption) (by assumption) (by assumption)).mono ?_; rintro e w1 ⟨r, x, o4, o5, o6, o7, o8, o9, o10, hr, rfl, rfl⟩; have Hr := Lib.hid hr; clear hr))
  exact bodyPost_ret (v := .tuple #[.agg #[.int .i64 r.add, .string r.plus, .string r.minus], .int .i64 x]) (by simp [results, Try.results38, go_sem]) rfl (ApplyPost.mk (by rw [applyF_add]; exact Hr.out) (by ((repeat (first | with_reducible refine Below.drew ?_ | (with_reducible refine Below.alloc ?_ ?_ _; rotate_left; (focus (first | (simp; done) | (simp; omega) | omega))) | (with_reducible refine Below.setCell ?_ ?_ _; rotate_left; (focus (first | (simp; done) | (simp; omega) | omega))))); (first | with_reducible exact Below.refl _ _ | with_reducible assumption))))

set_option maxHeartbeats 1000000 in
theorem apply_sub (A : Option Addr) (n cap : Nat) (vs : List Val) (a : Val) (b : Val) (w : World) (hV : Vals w w.heap.size A vs) (hn : vs.length = n) (h2 : 2 ≤ n) (ha : vs[n - 2]? = some a) (hb : vs[n - 1]? = some b) (hm : n ≤ maxLen) (s1 : a.plus.size ≤ 140737488355328) (s2 : a.minus.size ≤ 140737488355328) (s3 : b.plus.size ≤ 140737488355328) (s4 : b.minus.size ≤ 140737488355328) :
    Calls Try.prog 38 #[.int .i64 9, .slice A n cap] w (ApplyPost 9 a b w) := by
  have hl : n - 2 < n := by have := (List.getElem?_eq_some_iff.1 ha).1; omega
  obtain ⟨bl, off, rfl, -, -⟩ := hV.2 (by omega)
  obtain ⟨hbl, c0, c1, c2⟩ := Vals.cells_at hV hb
  obtain ⟨_, d0, d1, d2⟩ := Vals.cells_at hV ha
  clear hV hn hb ha
  unfold maxLen at hm
  obtain ⟨q, rfl⟩ : ∃ q, n = q + 2 := ⟨n - 2, by omega⟩
  simp only [Nat.add_sub_cancel, show q + 2 - 1 = q + 1 from rfl] at c0 c1 c2 d0 d1 d2
  go_enter Try.func38, Try.ntmps38
  go_wp2_with fail
  go_region_with (first | (go_at_call 12; refine (neg_any _ _ _ _).mono ?_; rintro e w1 ⟨rfl, o1, o2, rfl⟩) | (go_at_call 8; refine (add_any _ _ _ _ _ _ _ (by assumption) (by assumption) (by assumption) (by assumption)).mono ?_; rintro e w1 ⟨r, x, o4, o5, o6, o7, o8, o9, o10, hr, rfl, rfl⟩; have Hr := Lib.hid hr; clear hr))
  all_goals go_wp2_with fail
  all_goals (exact bodyPost_ret (v := .tuple #[.agg #[.int .i64 r.add, .string r.plus, .string r.minus], .int .i64 x]) (by simp [results, Try.results38, go_sem]) rfl (ApplyPost.mk (by rw [applyF_sub]; exact Hr.out) (by ((repeat (first | with_reducible refine Below.drew ?_ | (with_reducible refine Below.alloc ?_ ?_ _; rotate_left; (focus (first | (simp; done) | (simp; omega) | omega))) | (with_reducible refine Below.setCell ?_ ?_ _; rotate_left; (focus (first | (simp; done) | (simp; omega) | omega))))); (first | with_reducible exact Below.refl _ _ | with_reducible assumption)))))

set_option maxHeartbeats 1000000 in
theorem apply_num (k : Int) (k3 : (k == 3) = false) (k4 : (k == 4) = false) (k8 : (k == 8) = false) (k9 : (k == 9) = false) (A : Option Addr) (n cap : Nat) (vs : List Val) (a : Val) (b : Val) (w : World) (hV : Vals w w.heap.size A vs) (hn : vs.length = n) (h2 : 2 ≤ n) (ha : vs[n - 2]? = some a) (hb : vs[n - 1]? = some b) (hm : n ≤ maxLen) :
    Calls Try.prog 38 #[.int .i64 k, .slice A n cap] w (ApplyPost k a b w) := by
  have hl : n - 2 < n := by have := (List.getElem?_eq_some_iff.1 ha).1; omega
  obtain ⟨bl, off, rfl, -, -⟩ := hV.2 (by omega)
  obtain ⟨hbl, c0, c1, c2⟩ := Vals.cells_at hV hb
  obtain ⟨_, d0, d1, d2⟩ := Vals.cells_at hV ha
  clear hV hn hb ha
  unfold maxLen at hm
  obtain ⟨q, rfl⟩ : ∃ q, n = q + 2 := ⟨n - 2, by omega⟩
  simp only [Nat.add_sub_cancel, show q + 2 - 1 = q + 1 from rfl] at c0 c1 c2 d0 d1 d2
  by_cases ha : plainB a.plus a.minus = true
  · by_cases hb : plainB b.plus b.minus = true
    · have hx := Lib.hid (applyF_num k3 k4 k8 k9 ha hb)
      go_enter Try.func38, Try.ntmps38
      go_wp2_with (first | (go_at_call 32; refine (plain_any _ _ _ _).mono ?_; rintro e w1 ⟨rfl, o3, rfl⟩) | (go_at_call 55; refine (numbers_any _ _ _ _).mono ?_; rintro e w1 ⟨rfl, rfl⟩))
      exact bodyPost_ret (v := .tuple #[.agg #[.int .i64 (numF k a.add b.add).1, .string ⟨#[]⟩, .string ⟨#[]⟩], .int .i64 (numF k a.add b.add).2]) (by simp [results, Try.results38, go_sem]) rfl (ApplyPost.mk hx.out (by ((repeat (first | with_reducible refine Below.drew ?_ | (with_reducible refine Below.alloc ?_ ?_ _; rotate_left; (focus (first | (simp; done) | (simp; omega) | omega))) | (with_reducible refine Below.setCell ?_ ?_ _; rotate_left; (focus (first | (simp; done) | (simp; omega) | omega))))); (first | with_reducible exact Below.refl _ _ | with_reducible assumption))))
    · have hb' : plainB b.plus b.minus = false := by simpa using hb
      have hx := Lib.hid (applyF_num_bad (a := a) k3 k4 k8 k9 (.inr hb'))
      go_enter Try.func38, Try.ntmps38
      go_wp2_with (first | (go_at_call 32; refine (plain_any _ _ _ _).mono ?_; rintro e w1 ⟨rfl, o3, rfl⟩))
      exact bodyPost_ret (v := .tuple #[.agg #[.int .i64 0, .string ⟨#[]⟩, .string ⟨#[]⟩], .int .i64 91]) (by simp [results, Try.results38, go_sem]) rfl (ApplyPost.mk hx.out (by ((repeat (first | with_reducible refine Below.drew ?_ | (with_reducible refine Below.alloc ?_ ?_ _; rotate_left; (focus (first | (simp; done) | (simp; omega) | omega))) | (with_reducible refine Below.setCell ?_ ?_ _; rotate_left; (focus (first | (simp; done) | (simp; omega) | omega))))); (first | with_reducible exact Below.refl _ _ | with_reducible assumption))))
  · have ha' : plainB a.plus a.minus = false := by simpa using ha
    have hx := Lib.hid (applyF_num_bad (b := b) k3 k4 k8 k9 (.inl ha'))
    go_enter Try.func38, Try.ntmps38
    go_wp2_with (first | (go_at_call 32; refine (plain_any _ _ _ _).mono ?_; rintro e w1 ⟨rfl, o3, rfl⟩))
    exact bodyPost_ret (v := .tuple #[.agg #[.int .i64 0, .string ⟨#[]⟩, .string ⟨#[]⟩], .int .i64 91]) (by simp [results, Try.results38, go_sem]) rfl (ApplyPost.mk hx.out (by ((repeat (first | with_reducible refine Below.drew ?_ | (with_reducible refine Below.alloc ?_ ?_ _; rotate_left; (focus (first | (simp; done) | (simp; omega) | omega))) | (with_reducible refine Below.setCell ?_ ?_ _; rotate_left; (focus (first | (simp; done) | (simp; omega) | omega))))); (first | with_reducible exact Below.refl _ _ | with_reducible assumption))))

end Go.Proofs.Ythhlghoeapjagaa
