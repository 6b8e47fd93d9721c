/- Contracts of takes, term, form, lengthOrForm, Check of package expr. -/
import Derived.Test.YthhlghoeapjagaaEb
set_option linter.unusedVariables false
set_option linter.unusedSimpArgs false
namespace Go.Proofs.Ythhlghoeapjagaa
open Go.RowKit

set_option maxHeartbeats 400000 in
theorem takes_any (k : Int) (w : World) :
    Calls Try.prog 37 #[.int .i64 k] w fun e w' => e = .returned (.int .i64 (takesF k)) ∧ w = w' := by
  go_enter Try.func37, Try.ntmps37
  go_wp2
  all_goals (go_ret; refine ⟨ret_int ?_, rfl⟩; unfold takesF; (repeat' split) <;> simp_all <;> omega)

set_option maxHeartbeats 800000 in
theorem term_any (k n : Int) (s : ByteArray) (w : World) (hs : s.size ≤ maxLen) :
    Calls Try.prog 59 #[.agg #[.int .i64 k, .int .i64 n, .string s]] w fun e w' => e = .returned (.bool (termB ⟨k, n, s⟩)) ∧ ∃ o, w' = w.alloc o := by
  go_enter Try.func59, Try.ntmps59
  go_wp2_with (first
    | (go_at_call 14; refine (isSym_any _ _ hs).mono ?_; rintro e w' ⟨rfl, rfl⟩)
    | (go_at_call 37; refine (takes_any _ _).mono ?_; rintro e w' ⟨rfl, rfl⟩))
  all_goals (go_ret; refine ⟨ret_bool ?_, _, rfl⟩; rw [Bool.eq_iff_iff]; simp_all [termB, isEmpty_emp]; try omega)

/-- A slice of terms. -/
def Terms (w : World) (B : Nat) (A : Option Addr) (ts : List Term) : Prop := SL w B 3 A ts.length (ts.flatMap Term.cells)

theorem Terms.cells_at {w : World} {B : Nat} {b off : Nat} {ts : List Term} (h : Terms w B (some ⟨b, off, none⟩) ts) {k : Nat} {t : Term} (hk : ts[k]? = some t) :
    b < B ∧ w.cell? ⟨b, off + k * 3, none⟩ = some (.int .i64 t.kind) ∧ w.cell? ⟨b, off + k * 3 + 1, none⟩ = some (.int .i64 t.n) ∧ w.cell? ⟨b, off + k * 3 + 2, none⟩ = some (.string t.sym) := by
  have hl : k < ts.length := (List.getElem?_eq_some_iff.1 hk).1
  obtain ⟨b', off', e, hb, hc⟩ := h.2 (by omega)
  injection e with e
  injection e with e1 e2
  subst e1
  subst e2
  have g := fun j hj => flat_get Term.cells 3 (fun _ => rfl) ts k t j hk hj
  refine ⟨hb, ?_, ?_, ?_⟩
  · have := hc (k * 3 + 0) _ ((g 0 (by omega)).trans rfl); simpa using this
  · have := hc (k * 3 + 1) _ ((g 1 (by omega)).trans rfl); simpa [Nat.add_assoc] using this
  · have := hc (k * 3 + 2) _ ((g 2 (by omega)).trans rfl); simpa [Nat.add_assoc] using this

set_option maxHeartbeats 800000 in
theorem form_any (A : Option Addr) (cap : Nat) (ts : List Term) (w : World) (hT : Terms w w.heap.size A ts) (hl : ts.length ≤ maxLen) (hsz : ∀ t ∈ ts, t.sym.size ≤ maxLen) :
    Calls Try.prog 48 #[.slice A ts.length cap] w fun e w' => e = .returned (.int .i64 (formF 0 ts)) ∧ Below w.heap.size w w' := by
  unfold maxLen at hl
  have HT := Lib.hid hT
  have HZ := Lib.hid hsz
  clear hT hsz
  go_enter Try.func48, Try.ntmps48
  go_wp2_with fail
  go_loopw [3, 9] (fun hv i wr => ∃ (k : Nat) (h : Int), k ≤ ts.length ∧ 0 ≤ h ∧ h ≤ k ∧ i = .int .i64 k ∧ hv = .int .i64 h ∧ Hid (formF h (ts.drop k) = formF 0 ts) ∧ Below w.heap.size w wr) (fun _ i _ => ts.length - (intOf i).toNat)
  case atStart => exact ⟨0, 0, Nat.zero_le _, by omega, by omega, rfl, rfl, show _ = _ by simp, Below.refl _ _⟩
  case round =>
    obtain ⟨k, h, hk, h0, h1, rfl, rfl, hr, hb⟩ := hrel
    by_cases hlt : k < ts.length
    · obtain ⟨t, ht⟩ : ∃ t, ts[k]? = some t := ⟨_, List.getElem?_eq_getElem hlt⟩
      have Ht := Lib.hid ht
      have hz := HZ.out t (List.mem_of_getElem? ht)
      have hd : Hid (ts.drop k = t :: ts.drop (k + 1)) := show _ = _ by rw [List.drop_eq_getElem_cons hlt]; congr 1; rw [List.getElem?_eq_getElem hlt] at ht; injection ht
      clear ht
      obtain ⟨b, off, rfl, _, _⟩ := HT.out.2 (by omega)
      obtain ⟨hbb, c0, c1, c2⟩ := Terms.cells_at (SL.below HT.out hb) Ht.out
      have tb := takesF_bd t.kind
      have hbs := hb.size
      go_wp2_with (first
        | (go_at_call 37; refine (takes_any _ _).mono ?_; rintro e w' ⟨rfl, rfl⟩)
        | (go_at_call 59; refine (term_any _ _ _ _ hz).mono ?_; rintro e w' ⟨rfl, o, rfl⟩))
      · go_ret
        exact ⟨ret_int (by have e := hr.out; rw [hd.out, formF, if_pos (Or.inr ‹_›)] at e; exact e), (by ((repeat (first | with_reducible refine Below.drew ?_ | (with_reducible refine Below.alloc ?_ ?_ _; rotate_left; (focus (first | (simp; done) | (simp; omega) | omega))) | (with_reducible refine Below.setCell ?_ ?_ _; rotate_left; (focus (first | (simp; done) | (simp; omega) | omega))))); (first | with_reducible exact Below.refl _ _ | with_reducible assumption)))⟩
      · go_roundw
        case rel => exact ⟨k + 1, _, by omega, by omega, by omega, by go_num, rfl, show _ = _ by rw [← hr.out, hd.out, formF, if_neg (by simp_all)], (by ((repeat (first | with_reducible refine Below.drew ?_ | (with_reducible refine Below.alloc ?_ ?_ _; rotate_left; (focus (first | (simp; done) | (simp; omega) | omega))) | (with_reducible refine Below.setCell ?_ ?_ _; rotate_left; (focus (first | (simp; done) | (simp; omega) | omega))))); (first | with_reducible exact Below.refl _ _ | with_reducible assumption)))⟩
        case measure => simp [intOf]; omega
      · go_ret
        exact ⟨ret_int (by have e := hr.out; rw [hd.out, formF, if_pos (Or.inl (by simp_all))] at e; exact e), (by ((repeat (first | with_reducible refine Below.drew ?_ | (with_reducible refine Below.alloc ?_ ?_ _; rotate_left; (focus (first | (simp; done) | (simp; omega) | omega))) | (with_reducible refine Below.setCell ?_ ?_ _; rotate_left; (focus (first | (simp; done) | (simp; omega) | omega))))); (first | with_reducible exact Below.refl _ _ | with_reducible assumption)))⟩
    · have hd : Hid (ts.drop k = []) := show _ = _ by rw [List.drop_eq_nil_of_le (by omega)]
      by_cases hh : h = 1
      · subst hh
        have e : Hid (formF 0 ts = 0) := show _ = _ by rw [← hr.out, hd.out, formF, if_pos rfl]
        go_wp2_with fail
        go_ret; exact ⟨ret_int e.out.symm, hb⟩
      · have e : Hid (formF 0 ts = 90) := show _ = _ by rw [← hr.out, hd.out, formF, if_neg hh]
        have hne : (h != 1) = true := by simpa using hh
        go_wp2_with fail
        go_ret; exact ⟨ret_int e.out.symm, hb⟩

set_option maxHeartbeats 400000 in
theorem lengthOrForm_any (A : Option Addr) (cap : Nat) (ts : List Term) (w : World) (hT : Terms w w.heap.size A ts) (hl : ts.length ≤ maxLen) (hsz : ∀ t ∈ ts, t.sym.size ≤ maxLen) :
    Calls Try.prog 47 #[.slice A ts.length cap] w fun e w' => e = .returned (.int .i64 (if formF 0 ts = 0 then 93 else formF 0 ts)) ∧ Below w.heap.size w w' := by
  have HF := Lib.hid (form_any A cap ts w hT hl hsz)
  clear hT hl hsz
  generalize formF 0 ts = x at *
  by_cases hx : x = 0
  · subst hx
    rw [if_pos rfl]
    go_enter Try.func47, Try.ntmps47
    go_wp2_with fail
    refine (HF.out).mono ?_
    rintro e w1 ⟨rfl, hb⟩
    go_wp2_with fail
    go_ret; exact ⟨rfl, hb⟩
  · rw [if_neg hx]
    have hne : (x != 0) = true := by simpa using hx
    go_enter Try.func47, Try.ntmps47
    go_wp2_with fail
    refine (HF.out).mono ?_
    rintro e w1 ⟨rfl, hb⟩
    go_wp2_with fail
    go_ret; exact ⟨rfl, hb⟩

set_option maxHeartbeats 400000 in
theorem check_any (A : Option Addr) (cap : Nat) (ts : List Term) (w : World) (hT : Terms w w.heap.size A ts) (hl : ts.length ≤ maxLen) (hsz : ∀ t ∈ ts, t.sym.size ≤ maxLen) :
    Calls Try.prog 22 #[.slice A ts.length cap] w fun e w' => e = .returned (.int .i64 (checkF ts)) ∧ Below w.heap.size w w' := by
  have HF := Lib.hid (form_any A cap ts w hT hl hsz)
  have HL := Lib.hid (lengthOrForm_any A cap ts w hT hl hsz)
  clear hT hl hsz
  by_cases h : 256 < ts.length
  · have h' : (256 : Int) < ts.length := by omega
    have hc : checkF ts = (if formF 0 ts = 0 then 93 else formF 0 ts) := by rw [checkF, if_pos h]
    rw [hc]
    generalize (if formF 0 ts = 0 then 93 else formF 0 ts) = x at *
    go_enter Try.func22, Try.ntmps22
    go_wp2_with fail
    refine (HL.out).mono ?_
    rintro e w1 ⟨rfl, hb⟩
    go_wp2_with fail
    go_ret; exact ⟨rfl, hb⟩
  · have h' : (ts.length : Int) ≤ 256 := by omega
    have hc : checkF ts = formF 0 ts := by rw [checkF, if_neg h]
    rw [hc]
    generalize formF 0 ts = x at *
    go_enter Try.func22, Try.ntmps22
    go_wp2_with fail
    refine (HF.out).mono ?_
    rintro e w1 ⟨rfl, hb⟩
    go_wp2_with fail
    go_ret; exact ⟨rfl, hb⟩

end Go.Proofs.Ythhlghoeapjagaa
