/- Contracts of the small functions of package expr and of its reference: each returns what its plain Lean twin computes; no cell that stood before the call is changed. Contracts of takes, term, form, lengthOrForm, Check of package expr. Contracts of divide and numbers of package expr. Contract of apply of package expr. Contract of Eval of package expr. Contract of decimal of package expr. Contract of Print of package expr. Contract of live: an expression's value, as the document tells. -/
import Derived.Test.YtcdbldakjepjiaaDoorXa
import Derived.Test.YtcdbldakjepjiaaDoorEb
import Derived.WalkKit
import Derived.WalkSpells
import Derived.WalkLawsBesides
import Derived.Lib.Hide
import Derived.Deep.RegionHeld3
import Derived.Deep.DrawnRows
import Derived.Deep.RegionWith
import Derived.Deep.DeepCutAuto
import Derived.Deep.AppendLies
import Derived.WalkSmall
import Derived.Lib.SlBytesRow
/-! ## Ea -/
set_option linter.unusedVariables false
set_option linter.unusedSimpArgs false
namespace Go.Proofs.YtcdbldakjepjiaaDoor.Ex
open Go.RowKit
attribute [local go_sem ↓] Go.wp_at_zero Go.wp_at_succ

set_option maxHeartbeats 400000 in
theorem neg_any (a : Int) (p m : ByteArray) (w : World) :
    Calls Tryd.prog 96 #[.agg #[.int .i64 a, .string p, .string m]] w fun e w' => e = .returned (.agg #[.int .i64 (wrap64 (-a)), .string m, .string p]) ∧ ∃ o1 o2, w' = (w.alloc o1).alloc o2 := by
  go_enter Tryd.func96, Tryd.ntmps96
  go_wp2
  exact bodyPost_ret (v := .agg #[.int .i64 (wrap64 (-a)), .string m, .string p]) (by simp [results, Tryd.results96, go_sem]) rfl ⟨rfl, _, _, rfl⟩

set_option maxHeartbeats 400000 in
theorem clear_any (a : Int) (p m : ByteArray) (w : World) :
    Calls Tryd.prog 115 #[.agg #[.int .i64 a, .string p, .string m]] w fun e w' => ∃ r o1 o2, Hid (clearF ⟨a, p, m⟩ = r) ∧ e = .returned (.agg #[.int .i64 r.add, .string r.plus, .string r.minus]) ∧ w' = (w.alloc o1).alloc o2 := by
  by_cases h : p = m
  · subst h
    go_enter Tryd.func115, Tryd.ntmps115
    go_wp2
    exact bodyPost_ret (v := .agg #[.int .i64 a, .string emp, .string emp]) (by simp [results, Tryd.results115, go_sem, emp]) rfl ⟨⟨a, emp, emp⟩, _, _, show clearF _ = _ by simp [clearF], rfl, rfl⟩
  · have h' : (p.toList == m.toList) = false := by simpa [ba_iff] using h
    go_enter Tryd.func115, Tryd.ntmps115
    go_wp2
    exact bodyPost_ret (v := .agg #[.int .i64 a, .string p, .string m]) (by simp [results, Tryd.results115, go_sem]) rfl ⟨⟨a, p, m⟩, _, _, show clearF _ = _ by simp [clearF, h], rfl, rfl⟩

set_option maxHeartbeats 400000 in
theorem meet_same (b1 o1 b2 o2 : Nat) (s t : ByteArray) (w : World) (hs : w.cell? ⟨b1, o1, none⟩ = some (.string s)) (ht : w.cell? ⟨b2, o2, none⟩ = some (.string t)) (fs : w.frozen? ⟨b1, o1, none⟩ = false) (ft : w.frozen? ⟨b2, o2, none⟩ = false) (hne : ¬ b1 = b2) (h : (s.toList == t.toList) = true) :
    Calls Tryd.prog 116 #[.pointer (some ⟨b1, o1, none⟩), .pointer (some ⟨b2, o2, none⟩)] w fun e w' => e = .returned (.tuple #[]) ∧ w' = ((w.setCell ⟨b1, o1, none⟩ (.string ⟨#[]⟩)).setCell ⟨b2, o2, none⟩ (.string ⟨#[]⟩)).drew := by
  go_enter Tryd.func116, Tryd.ntmps116
  go_wp2
  go_region
  all_goals go_wp2
  all_goals (go_end0; exact ⟨rfl, rfl⟩)

set_option maxHeartbeats 400000 in
theorem meet_other (b1 o1 b2 o2 : Nat) (s t : ByteArray) (w : World) (hs : w.cell? ⟨b1, o1, none⟩ = some (.string s)) (ht : w.cell? ⟨b2, o2, none⟩ = some (.string t)) (h : (s.toList == t.toList) = false) :
    Calls Tryd.prog 116 #[.pointer (some ⟨b1, o1, none⟩), .pointer (some ⟨b2, o2, none⟩)] w fun e w' => e = .returned (.tuple #[]) ∧ w' = w.drew := by
  go_enter Tryd.func116, Tryd.ntmps116
  go_wp2
  go_region
  all_goals go_wp2
  all_goals (go_end0; exact ⟨rfl, rfl⟩)

theorem meet_any (b1 o1 b2 o2 : Nat) (s t : ByteArray) (w : World) (hs : w.cell? ⟨b1, o1, none⟩ = some (.string s)) (ht : w.cell? ⟨b2, o2, none⟩ = some (.string t)) (fs : w.frozen? ⟨b1, o1, none⟩ = false) (ft : w.frozen? ⟨b2, o2, none⟩ = false) (hne : ¬ b1 = b2) :
    Calls Tryd.prog 116 #[.pointer (some ⟨b1, o1, none⟩), .pointer (some ⟨b2, o2, none⟩)] w fun e w' => ∃ s' t', Hid (meetF s t = (s', t')) ∧ e = .returned (.tuple #[]) ∧ w' = ((w.setCell ⟨b1, o1, none⟩ (.string s')).setCell ⟨b2, o2, none⟩ (.string t')).drew := by
  by_cases h : s = t
  · refine (meet_same b1 o1 b2 o2 s t w hs ht fs ft hne (by simp [h])).mono ?_
    rintro e w' ⟨rfl, rfl⟩
    exact ⟨_, _, show meetF _ _ = (emp, emp) by simp [meetF, h], rfl, rfl⟩
  · refine (meet_other b1 o1 b2 o2 s t w hs ht (by simpa [ba_iff] using h)).mono ?_
    rintro e w' ⟨rfl, rfl⟩
    refine ⟨s, t, show meetF _ _ = _ by simp [meetF, h], rfl, ?_⟩
    rw [setCell_self hs, setCell_self ht]

def AddPost (A B : Val) (w : World) (e : Ending) (w' : World) : Prop :=
  ∃ r x o1 o2 o3 o4 o5 o6 o7, addF A B = (r, x) ∧ e = .returned (.tuple #[.agg #[.int .i64 r.add, .string r.plus, .string r.minus], .int .i64 x]) ∧ w' = (((((((w.alloc o1).alloc o2).alloc o3).alloc o4).alloc o5).alloc o6).alloc o7).drew.drew.drew

theorem AddPost.mk {A B : Val} {w : World} {a : Int} {p m : ByteArray} {x : Int} {o1 o2 o3 o4 o5 o6 o7 : Obj} (h : addF A B = (⟨a, p, m⟩, x)) :
    AddPost A B w (.returned (.tuple #[.agg #[.int .i64 a, .string p, .string m], .int .i64 x])) (((((((w.alloc o1).alloc o2).alloc o3).alloc o4).alloc o5).alloc o6).alloc o7).drew.drew.drew := ⟨_, _, _, _, _, _, _, _, _, h, rfl, rfl⟩

set_option maxHeartbeats 2000000 in
theorem add_any (a : Int) (p m : ByteArray) (b : Int) (q n : ByteArray) (w : World) (hp : p.size ≤ 140737488355328) (hm : m.size ≤ 140737488355328) (hq : q.size ≤ 140737488355328) (hn : n.size ≤ 140737488355328) :
    Calls Tryd.prog 97 #[.agg #[.int .i64 a, .string p, .string m], .agg #[.int .i64 b, .string q, .string n]] w (AddPost ⟨a, p, m⟩ ⟨b, q, n⟩ w) := by
  go_enter Tryd.func97, Tryd.ntmps97
  go_upto_region 1 with fail
  go_cut [] (fun wx => ∃ r1 r2 o1 o2 o3 o4, Hid (clearF ⟨a, p, m⟩ = r1) ∧ Hid (clearF ⟨b, q, n⟩ = r2) ∧ wx = (((((((w.alloc (.cells #[.int .i64 r1.add, .string r1.plus, .string r1.minus] 51)).alloc (.cells #[.int .i64 r2.add, .string r2.plus, .string r2.minus] 51)).alloc (.cells #[.int .i64 0, .string ⟨#[]⟩, .string ⟨#[]⟩] 51)).alloc o1).alloc o2).alloc o3).alloc o4).drew)
  case first =>
    go_region_with (first | (go_at_call_of 115 a; refine (clear_any _ _ _ _).mono ?_; rintro e w1 ⟨r1, o1, o2, hr1, rfl, rfl⟩) | (go_at_call_of 115 b; refine (clear_any _ _ _ _).mono ?_; rintro e w1 ⟨r2, o3, o4, hr2, rfl, rfl⟩))
    all_goals (go_wp2_with fail; go_meet; exact ⟨r1, r2, o1, o2, o3, o4, hr1, hr2, rfl⟩)
  case rest =>
    obtain ⟨r1, r2, o1, o2, o3, o4, hr1, hr2, rfl⟩ := hcut
    obtain ⟨s1, s2⟩ := clearF_size hr1.out hp hm
    obtain ⟨s3, s4⟩ := clearF_size hr2.out hq hn
    clear hp hm hq hn
    go_wp2_with fail
    refine (meet_any _ _ _ _ _ _ _ (by simp [go_sem]; rfl) (by simp [go_sem]; rfl) (by simp [go_sem]) (by simp [go_sem]) (by simp)).mono ?_
    rintro e w1 ⟨p1, m2, h1, rfl, rfl⟩
    go_wp2_with fail
    refine (meet_any _ _ _ _ _ _ _ (by simp [go_sem]; rfl) (by simp [go_sem]; rfl) (by simp [go_sem]) (by simp [go_sem]) (by simp)).mono ?_
    rintro e w1 ⟨m1, p2, h2, rfl, rfl⟩
    obtain ⟨s5, s6⟩ := meetF_size h1.out s1 s4
    obtain ⟨s7, s8⟩ := meetF_size h2.out s2 s3
    clear s1 s2 s3 s4
    go_wp2
    all_goals first
      | (refine bodyPost_ret (v := .tuple #[.agg #[.int .i64 0, .string ⟨#[]⟩, .string ⟨#[]⟩], .int .i64 91]) ?_ rfl (AddPost.mk (addF_bad hr1.out hr2.out h1.out h2.out ?_))
         · simp [results, Tryd.results97, go_sem]; done
         · simp_all; done)
      | (refine bodyPost_ret (v := .tuple #[.agg #[.int .i64 (wrap64 (r1.add + r2.add)), .string (p1 ++ p2), .string (m1 ++ m2)], .int .i64 0]) ?_ rfl (AddPost.mk (addF_ok hr1.out hr2.out h1.out h2.out ?_ ?_))
         · simp [results, Tryd.results97, go_sem]
         · simp_all
         · simp_all)

end Go.Proofs.YtcdbldakjepjiaaDoor.Ex

/-! ## Ec -/
namespace Go.Proofs.YtcdbldakjepjiaaDoor.Ex
open Go.RowKit

set_option maxHeartbeats 400000 in
theorem takes_any (k : Int) (w : World) :
    Calls Tryd.prog 74 #[.int .i64 k] w fun e w' => e = .returned (.int .i64 (takesF k)) ∧ w = w' := by
  go_enter Tryd.func74, Tryd.ntmps74
  go_wp2
  all_goals (go_ret; refine ⟨ret_int ?_, rfl⟩; unfold takesF; (repeat' split) <;> simp_all <;> omega)

set_option maxHeartbeats 800000 in
theorem term_any (k n : Int) (s : ByteArray) (w : World) (hs : s.size ≤ maxLen) :
    Calls Tryd.prog 114 #[.agg #[.int .i64 k, .int .i64 n, .string s]] w fun e w' => e = .returned (.bool (termB ⟨k, n, s⟩)) ∧ ∃ o, w' = w.alloc o := by
  go_enter Tryd.func114, Tryd.ntmps114
  go_wp2_with (first
    | (go_at_call 67; refine (isSym_any _ _ hs).mono ?_; rintro e w' ⟨rfl, rfl⟩)
    | (go_at_call 74; refine (takes_any _ _).mono ?_; rintro e w' ⟨rfl, rfl⟩))
  all_goals (go_ret; refine ⟨ret_bool ?_, _, rfl⟩; rw [Bool.eq_iff_iff]; simp_all [termB, isEmpty_emp]; try omega)

/-- A slice of terms. -/
def Terms (w : World) (B : Nat) (A : Option Addr) (ts : List Term) : Prop := SL w B 3 A ts.length (ts.flatMap Term.cells)

theorem Terms.cells_at {w : World} {B : Nat} {b off : Nat} {ts : List Term} (h : Terms w B (some ⟨b, off, none⟩) ts) {k : Nat} {t : Term} (hk : ts[k]? = some t) :
    b < B ∧ w.cell? ⟨b, off + k * 3, none⟩ = some (.int .i64 t.kind) ∧ w.cell? ⟨b, off + k * 3 + 1, none⟩ = some (.int .i64 t.n) ∧ w.cell? ⟨b, off + k * 3 + 2, none⟩ = some (.string t.sym) := by
  have hl : k < ts.length := (List.getElem?_eq_some_iff.1 hk).1
  obtain ⟨b', off', e, hb, hc⟩ := h.2 (by omega)
  injection e with e
  injection e with e1 e2
  subst e1
  subst e2
  have g := fun j hj => flat_get Term.cells 3 (fun _ => rfl) ts k t j hk hj
  refine ⟨hb, ?_, ?_, ?_⟩
  · have := hc (k * 3 + 0) _ ((g 0 (by omega)).trans rfl); simpa using this
  · have := hc (k * 3 + 1) _ ((g 1 (by omega)).trans rfl); simpa [Nat.add_assoc] using this
  · have := hc (k * 3 + 2) _ ((g 2 (by omega)).trans rfl); simpa [Nat.add_assoc] using this

set_option maxHeartbeats 800000 in
theorem form_any (A : Option Addr) (cap : Nat) (ts : List Term) (w : World) (hT : Terms w w.heap.size A ts) (hl : ts.length ≤ maxLen) (hsz : ∀ t ∈ ts, t.sym.size ≤ maxLen) :
    Calls Tryd.prog 95 #[.slice A ts.length cap] w fun e w' => e = .returned (.int .i64 (formF 0 ts)) ∧ Below w.heap.size w w' := by
  unfold maxLen at hl
  have HT := Lib.hid hT
  have HZ := Lib.hid hsz
  clear hT hsz
  go_enter Tryd.func95, Tryd.ntmps95
  go_wp2_with fail
  go_loopw [3, 9] (fun hv i wr => ∃ (k : Nat) (h : Int), k ≤ ts.length ∧ 0 ≤ h ∧ h ≤ k ∧ i = .int .i64 k ∧ hv = .int .i64 h ∧ Hid (formF h (ts.drop k) = formF 0 ts) ∧ Below w.heap.size w wr) (fun _ i _ => ts.length - (intOf i).toNat)
  case atStart => exact ⟨0, 0, Nat.zero_le _, by omega, by omega, rfl, rfl, show _ = _ by simp, Below.refl _ _⟩
  case round =>
    obtain ⟨k, h, hk, h0, h1, rfl, rfl, hr, hb⟩ := hrel
    by_cases hlt : k < ts.length
    · obtain ⟨t, ht⟩ : ∃ t, ts[k]? = some t := ⟨_, List.getElem?_eq_getElem hlt⟩
      have Ht := Lib.hid ht
      have hz := HZ.out t (List.mem_of_getElem? ht)
      have hd : Hid (ts.drop k = t :: ts.drop (k + 1)) := show _ = _ by rw [List.drop_eq_getElem_cons hlt]; congr 1; rw [List.getElem?_eq_getElem hlt] at ht; injection ht
      clear ht
      obtain ⟨b, off, rfl, _, _⟩ := HT.out.2 (by omega)
      obtain ⟨hbb, c0, c1, c2⟩ := Terms.cells_at (SL.below HT.out hb) Ht.out
      have tb := takesF_bd t.kind
      have hbs := hb.size
      go_wp2_with (first
        | (go_at_call 74; refine (takes_any _ _).mono ?_; rintro e w' ⟨rfl, rfl⟩)
        | (go_at_call 114; refine (term_any _ _ _ _ hz).mono ?_; rintro e w' ⟨rfl, o, rfl⟩))
      · go_ret
        exact ⟨ret_int (by have e := hr.out; rw [hd.out, formF, if_pos (Or.inr ‹_›)] at e; exact e), (by ((repeat (first | with_reducible refine Below.drew ?_ | (with_reducible refine Below.alloc ?_ ?_ _; rotate_left; (focus (first | (simp; done) | (simp; omega) | omega))) | (with_reducible refine Below.setCell ?_ ?_ _; rotate_left; (focus (first | (simp; done) | (simp; omega) | omega))))); (first | with_reducible exact Below.refl _ _ | with_reducible assumption)))⟩
      · go_roundw
        case rel => exact ⟨k + 1, _, by omega, by omega, by omega, by go_num, rfl, show _ = _ by rw [← hr.out, hd.out, formF, if_neg (by simp_all)], (by ((repeat (first | with_reducible refine Below.drew ?_ | (with_reducible refine Below.alloc ?_ ?_ _; rotate_left; (focus (first | (simp; done) | (simp; omega) | omega))) | (with_reducible refine Below.setCell ?_ ?_ _; rotate_left; (focus (first | (simp; done) | (simp; omega) | omega))))); (first | with_reducible exact Below.refl _ _ | with_reducible assumption)))⟩
        case measure => simp [intOf]; omega
      · go_ret
        exact ⟨ret_int (by have e := hr.out; rw [hd.out, formF, if_pos (Or.inl (by simp_all))] at e; exact e), (by ((repeat (first | with_reducible refine Below.drew ?_ | (with_reducible refine Below.alloc ?_ ?_ _; rotate_left; (focus (first | (simp; done) | (simp; omega) | omega))) | (with_reducible refine Below.setCell ?_ ?_ _; rotate_left; (focus (first | (simp; done) | (simp; omega) | omega))))); (first | with_reducible exact Below.refl _ _ | with_reducible assumption)))⟩
    · have hd : Hid (ts.drop k = []) := show _ = _ by rw [List.drop_eq_nil_of_le (by omega)]
      by_cases hh : h = 1
      · subst hh
        have e : Hid (formF 0 ts = 0) := show _ = _ by rw [← hr.out, hd.out, formF, if_pos rfl]
        go_wp2_with fail
        go_ret; exact ⟨ret_int e.out.symm, hb⟩
      · have e : Hid (formF 0 ts = 90) := show _ = _ by rw [← hr.out, hd.out, formF, if_neg hh]
        have hne : (h != 1) = true := by simpa using hh
        go_wp2_with fail
        go_ret; exact ⟨ret_int e.out.symm, hb⟩

set_option maxHeartbeats 400000 in
theorem lengthOrForm_any (A : Option Addr) (cap : Nat) (ts : List Term) (w : World) (hT : Terms w w.heap.size A ts) (hl : ts.length ≤ maxLen) (hsz : ∀ t ∈ ts, t.sym.size ≤ maxLen) :
    Calls Tryd.prog 94 #[.slice A ts.length cap] w fun e w' => e = .returned (.int .i64 (if formF 0 ts = 0 then 93 else formF 0 ts)) ∧ Below w.heap.size w w' := by
  have HF := Lib.hid (form_any A cap ts w hT hl hsz)
  clear hT hl hsz
  generalize formF 0 ts = x at *
  by_cases hx : x = 0
  · subst hx
    rw [if_pos rfl]
    go_enter Tryd.func94, Tryd.ntmps94
    go_wp2_with fail
    refine (HF.out).mono ?_
    rintro e w1 ⟨rfl, hb⟩
    go_wp2_with fail
    go_ret; exact ⟨rfl, hb⟩
  · rw [if_neg hx]
    have hne : (x != 0) = true := by simpa using hx
    go_enter Tryd.func94, Tryd.ntmps94
    go_wp2_with fail
    refine (HF.out).mono ?_
    rintro e w1 ⟨rfl, hb⟩
    go_wp2_with fail
    go_ret; exact ⟨rfl, hb⟩

set_option maxHeartbeats 400000 in
theorem check_any (A : Option Addr) (cap : Nat) (ts : List Term) (w : World) (hT : Terms w w.heap.size A ts) (hl : ts.length ≤ maxLen) (hsz : ∀ t ∈ ts, t.sym.size ≤ maxLen) :
    Calls Tryd.prog 73 #[.slice A ts.length cap] w fun e w' => e = .returned (.int .i64 (checkF ts)) ∧ Below w.heap.size w w' := by
  have HF := Lib.hid (form_any A cap ts w hT hl hsz)
  have HL := Lib.hid (lengthOrForm_any A cap ts w hT hl hsz)
  clear hT hl hsz
  by_cases h : 256 < ts.length
  · have h' : (256 : Int) < ts.length := by omega
    have hc : checkF ts = (if formF 0 ts = 0 then 93 else formF 0 ts) := by rw [checkF, if_pos h]
    rw [hc]
    generalize (if formF 0 ts = 0 then 93 else formF 0 ts) = x at *
    go_enter Tryd.func73, Tryd.ntmps73
    go_wp2_with fail
    refine (HL.out).mono ?_
    rintro e w1 ⟨rfl, hb⟩
    go_wp2_with fail
    go_ret; exact ⟨rfl, hb⟩
  · have h' : (ts.length : Int) ≤ 256 := by omega
    have hc : checkF ts = formF 0 ts := by rw [checkF, if_neg h]
    rw [hc]
    generalize formF 0 ts = x at *
    go_enter Tryd.func73, Tryd.ntmps73
    go_wp2_with fail
    refine (HF.out).mono ?_
    rintro e w1 ⟨rfl, hb⟩
    go_wp2_with fail
    go_ret; exact ⟨rfl, hb⟩

end Go.Proofs.YtcdbldakjepjiaaDoor.Ex

/-! ## Ed -/
namespace Go.Proofs.YtcdbldakjepjiaaDoor.Ex
open Go.RowKit

set_option maxHeartbeats 400000 in
theorem divide_any (k a b : Int) (w : World) :
    Calls Tryd.prog 117 #[.int .i64 k, .int .i64 a, .int .i64 b] w fun e w' => e = .returned (.tuple #[.int .i64 (divF k a b).1, .int .i64 (divF k a b).2]) ∧ w = w' := by
  by_cases h0 : b = 0
  · have hx : Hid (divF k a b = (0, 92)) := show _ = _ by rw [divF, if_pos h0]
    have h0' : (b == 0) = true := by simpa using h0
    clear h0
    go_enter Tryd.func117, Tryd.ntmps117
    go_wp2_with fail
    go_ret2; exact ⟨by rw [hx.out]; rfl, rfl⟩
  · have h0' : (b == 0) = false := by simpa using h0
    by_cases h1 : b = -1
    · have h1' : (b == -1) = true := by simpa using h1
      by_cases h7 : k = 7
      · have hx : Hid (divF k a b = (0, 0)) := show _ = _ by rw [divF, if_neg h0, if_pos ⟨h7, h1⟩]
        have h7' : (k == 7) = true := by simpa using h7
        clear h7 h1
        go_enter Tryd.func117, Tryd.ntmps117
        go_wp2_with fail
        go_ret2; exact ⟨by rw [hx.out]; rfl, rfl⟩
      · have hx : Hid (divF k a b = (wrap64 (-a), 0)) := show _ = _ by rw [divF, if_neg h0, if_neg (fun h => h7 h.1), if_neg h7, if_pos h1]
        have h7' : (k == 7) = false := by simpa using h7
        clear h1
        go_enter Tryd.func117, Tryd.ntmps117
        go_wp2_with fail
        go_ret2; exact ⟨by rw [hx.out]; rfl, rfl⟩
    · have h1' : (b == -1) = false := by simpa using h1
      by_cases h7 : k = 7
      · have hx : Hid (divF k a b = (a.tmod b, 0)) := show _ = _ by rw [divF, if_neg h0, if_neg (fun h => h1 h.2), if_pos h7]
        have h7' : (k == 7) = true := by simpa using h7
        clear h7
        go_enter Tryd.func117, Tryd.ntmps117
        go_wp2_with fail
        go_ret2; exact ⟨by rw [hx.out]; rfl, rfl⟩
      · have hx : Hid (divF k a b = (wrap64 (a.tdiv b), 0)) := show _ = _ by rw [divF, if_neg h0, if_neg (fun h => h7 h.1), if_neg h7, if_neg h1]
        have h7' : (k == 7) = false := by simpa using h7
        go_enter Tryd.func117, Tryd.ntmps117
        go_wp2_with fail
        go_ret2; exact ⟨by rw [hx.out]; rfl, rfl⟩

set_option maxHeartbeats 800000 in
theorem numbers_any (k a b : Int) (w : World) :
    Calls Tryd.prog 98 #[.int .i64 k, .int .i64 a, .int .i64 b] w fun e w' => e = .returned (.tuple #[.int .i64 (numF k a b).1, .int .i64 (numF k a b).2]) ∧ w = w' := by
  rcases numF_cases k a b with ⟨rfl, hx⟩ | ⟨rfl, hx⟩ | ⟨rfl, hx⟩ | ⟨rfl, hx⟩ | ⟨rfl, hx⟩ | ⟨rfl, hx⟩ | ⟨h5, h6, h7, h12, h13, h14, hr⟩
  iterate 6
    · have HX := Lib.hid hx
      clear hx
      go_enter Tryd.func98, Tryd.ntmps98
      go_wp2_with (first | (go_at_call 117; refine (divide_any _ _ _ _).mono ?_; rintro e w' ⟨rfl, rfl⟩))
      go_ret2; exact ⟨by rw [HX.out]; rfl, rfl⟩
  · rcases hr with ⟨hb, hx⟩ | ⟨hb0, hb1, rfl, hx⟩ | ⟨hb0, hb1, h10, hx⟩
    · have HX := Lib.hid hx
      clear hx
      rcases hb with hb | hb
      iterate 2
        · go_enter Tryd.func98, Tryd.ntmps98
          go_wp2_with fail
          go_ret2; exact ⟨by rw [HX.out]; rfl, rfl⟩
    · have HX := Lib.hid hx
      clear hx
      go_enter Tryd.func98, Tryd.ntmps98
      go_wp2_with fail
      go_ret2; exact ⟨by rw [HX.out]; rfl, rfl⟩
    · have HX := Lib.hid hx
      clear hx
      go_enter Tryd.func98, Tryd.ntmps98
      go_wp2_with fail
      go_ret2; exact ⟨by rw [HX.out]; rfl, rfl⟩

set_option maxHeartbeats 400000 in
theorem plain_any (a : Int) (p m : ByteArray) (w : World) :
    Calls Tryd.prog 68 #[.agg #[.int .i64 a, .string p, .string m]] w fun e w' => e = .returned (.bool (plainB p m)) ∧ ∃ o, w' = w.alloc o := by
  go_enter Tryd.func68, Tryd.ntmps68
  go_wp2
  all_goals (go_ret; refine ⟨ret_bool ?_, _, rfl⟩; simp_all [plainB, isEmpty_emp, ba_emp])

end Go.Proofs.YtcdbldakjepjiaaDoor.Ex

/-! ## Ee -/
namespace Go.Proofs.YtcdbldakjepjiaaDoor.Ex
open Go.RowKit
attribute [local go_sem ↓] Go.wp_at_zero Go.wp_at_succ

/-- A slice of values. -/
def Vals (w : World) (B : Nat) (A : Option Addr) (vs : List Val) : Prop := SL w B 3 A vs.length (vs.flatMap Val.cells)

theorem Vals.cells_at {w : World} {B : Nat} {b off : Nat} {vs : List Val} (h : Vals w B (some ⟨b, off, none⟩) vs) {k : Nat} {t : Val} (hk : vs[k]? = some t) :
    b < B ∧ w.cell? ⟨b, off + k * 3, none⟩ = some (.int .i64 t.add) ∧ w.cell? ⟨b, off + k * 3 + 1, none⟩ = some (.string t.plus) ∧ w.cell? ⟨b, off + k * 3 + 2, none⟩ = some (.string t.minus) := by
  have hl : k < vs.length := (List.getElem?_eq_some_iff.1 hk).1
  obtain ⟨b', off', e, hb, hc⟩ := h.2 (by omega)
  injection e with e
  injection e with e1 e2
  subst e1
  subst e2
  have g := fun j hj => flat_get Val.cells 3 (fun _ => rfl) vs k t j hk hj
  refine ⟨hb, ?_, ?_, ?_⟩
  · have := hc (k * 3 + 0) _ ((g 0 (by omega)).trans rfl); simpa using this
  · have := hc (k * 3 + 1) _ ((g 1 (by omega)).trans rfl); simpa [Nat.add_assoc] using this
  · have := hc (k * 3 + 2) _ ((g 2 (by omega)).trans rfl); simpa [Nat.add_assoc] using this

def ApplyPost (k : Int) (a b : Val) (w : World) (e : Ending) (w' : World) : Prop :=
  ∃ r x, applyF k a b = (r, x) ∧ e = .returned (.tuple #[.agg #[.int .i64 r.add, .string r.plus, .string r.minus], .int .i64 x]) ∧ Below w.heap.size w w'

theorem ApplyPost.mk {k : Int} {A B : Val} {w w' : World} {a : Int} {p m : ByteArray} {x : Int} (h : applyF k A B = (⟨a, p, m⟩, x)) (hb : Below w.heap.size w w') :
    ApplyPost k A B w (.returned (.tuple #[.agg #[.int .i64 a, .string p, .string m], .int .i64 x])) w' := ⟨_, _, h, rfl, hb⟩

set_option maxHeartbeats 1000000 in
theorem apply_neg (A : Option Addr) (n cap : Nat) (vs : List Val) (b : Val) (w : World) (hV : Vals w w.heap.size A vs) (hn : vs.length = n) (hb : vs[n - 1]? = some b) (hm : n ≤ maxLen) :
    Calls Tryd.prog 75 #[.int .i64 3, .slice A n cap] w (ApplyPost 3 zeroV b w) := by
  have hl : n - 1 < n := by have := (List.getElem?_eq_some_iff.1 hb).1; omega
  obtain ⟨bl, off, rfl, -, -⟩ := hV.2 (by omega)
  obtain ⟨hbl, c0, c1, c2⟩ := Vals.cells_at hV hb
  clear hV hn hb
  unfold maxLen at hm
  obtain ⟨q, rfl⟩ : ∃ q, n = q + 1 := ⟨n - 1, by omega⟩
  simp only [Nat.add_sub_cancel] at c0 c1 c2
  go_enter Tryd.func75, Tryd.ntmps75
  go_wp2_with (first | (go_at_call 96; refine (neg_any _ _ _ _).mono ?_; rintro e w1 ⟨rfl, o1, o2, rfl⟩))
  exact bodyPost_ret (v := .tuple #[.agg #[.int .i64 (wrap64 (-b.add)), .string b.minus, .string b.plus], .int .i64 0]) (by simp [results, Tryd.results75, go_sem]) rfl (ApplyPost.mk (by simp [applyF, negF]) (by ((repeat (first | with_reducible refine Below.drew ?_ | (with_reducible refine Below.alloc ?_ ?_ _; rotate_left; (focus (first | (simp; done) | (simp; omega) | omega))) | (with_reducible refine Below.setCell ?_ ?_ _; rotate_left; (focus (first | (simp; done) | (simp; omega) | omega))))); (first | with_reducible exact Below.refl _ _ | with_reducible assumption))))

set_option maxHeartbeats 1000000 in
theorem apply_not (A : Option Addr) (n cap : Nat) (vs : List Val) (b : Val) (w : World) (hV : Vals w w.heap.size A vs) (hn : vs.length = n) (hb : vs[n - 1]? = some b) (hm : n ≤ maxLen) :
    Calls Tryd.prog 75 #[.int .i64 4, .slice A n cap] w (ApplyPost 4 zeroV b w) := by
  have hl : n - 1 < n := by have := (List.getElem?_eq_some_iff.1 hb).1; omega
  obtain ⟨bl, off, rfl, -, -⟩ := hV.2 (by omega)
  obtain ⟨hbl, c0, c1, c2⟩ := Vals.cells_at hV hb
  clear hV hn hb
  unfold maxLen at hm
  obtain ⟨q, rfl⟩ : ∃ q, n = q + 1 := ⟨n - 1, by omega⟩
  simp only [Nat.add_sub_cancel] at c0 c1 c2
  by_cases hp : plainB b.plus b.minus = true
  · have hx := Lib.hid (applyF_not zeroV hp)
    go_enter Tryd.func75, Tryd.ntmps75
    go_wp2_with (first | (go_at_call 68; refine (plain_any _ _ _ _).mono ?_; rintro e w1 ⟨rfl, o3, rfl⟩))
    exact bodyPost_ret (v := .tuple #[.agg #[.int .i64 (bits .xor .i64 (-1) b.add), .string ⟨#[]⟩, .string ⟨#[]⟩], .int .i64 0]) (by simp [results, Tryd.results75, go_sem]) rfl (ApplyPost.mk hx.out (by ((repeat (first | with_reducible refine Below.drew ?_ | (with_reducible refine Below.alloc ?_ ?_ _; rotate_left; (focus (first | (simp; done) | (simp; omega) | omega))) | (with_reducible refine Below.setCell ?_ ?_ _; rotate_left; (focus (first | (simp; done) | (simp; omega) | omega))))); (first | with_reducible exact Below.refl _ _ | with_reducible assumption))))
  · have hp' : plainB b.plus b.minus = false := by simpa using hp
    have hx := Lib.hid (applyF_not_bad zeroV hp')
    go_enter Tryd.func75, Tryd.ntmps75
    go_wp2_with (first | (go_at_call 68; refine (plain_any _ _ _ _).mono ?_; rintro e w1 ⟨rfl, o3, rfl⟩))
    exact bodyPost_ret (v := .tuple #[.agg #[.int .i64 0, .string ⟨#[]⟩, .string ⟨#[]⟩], .int .i64 91]) (by simp [results, Tryd.results75, go_sem]) rfl (ApplyPost.mk hx.out (by ((repeat (first | with_reducible refine Below.drew ?_ | (with_reducible refine Below.alloc ?_ ?_ _; rotate_left; (focus (first | (simp; done) | (simp; omega) | omega))) | (with_reducible refine Below.setCell ?_ ?_ _; rotate_left; (focus (first | (simp; done) | (simp; omega) | omega))))); (first | with_reducible exact Below.refl _ _ | with_reducible assumption))))

set_option maxHeartbeats 1000000 in
theorem apply_add (A : Option Addr) (n cap : Nat) (vs : List Val) (a : Val) (b : Val) (w : World) (hV : Vals w w.heap.size A vs) (hn : vs.length = n) (h2 : 2 ≤ n) (ha : vs[n - 2]? = some a) (hb : vs[n - 1]? = some b) (hm : n ≤ maxLen) (s1 : a.plus.size ≤ 140737488355328) (s2 : a.minus.size ≤ 140737488355328) (s3 : b.plus.size ≤ 140737488355328) (s4 : b.minus.size ≤ 140737488355328) :
    Calls Tryd.prog 75 #[.int .i64 8, .slice A n cap] w (ApplyPost 8 a b w) := by
  have hl : n - 2 < n := by have := (List.getElem?_eq_some_iff.1 ha).1; omega
  obtain ⟨bl, off, rfl, -, -⟩ := hV.2 (by omega)
  obtain ⟨hbl, c0, c1, c2⟩ := Vals.cells_at hV hb
  obtain ⟨_, d0, d1, d2⟩ := Vals.cells_at hV ha
  clear hV hn hb ha
  unfold maxLen at hm
  obtain ⟨q, rfl⟩ : ∃ q, n = q + 2 := ⟨n - 2, by omega⟩
  simp only [Nat.add_sub_cancel, show q + 2 - 1 = q + 1 from rfl] at c0 c1 c2 d0 d1 d2
  go_enter Tryd.func75, Tryd.ntmps75
  go_wp2_with (first | (go_at_call 97; refine (add_any _ _ _ _ _ _ _ (by assumption) (by assumption) (by assumption) (by assumption)).mono ?_; rintro e w1 ⟨r, x, o4, o5, o6, o7, o8, o9, o10, hr, rfl, rfl⟩; have Hr := Lib.hid hr; clear hr))
  exact bodyPost_ret (v := .tuple #[.agg #[.int .i64 r.add, .string r.plus, .string r.minus], .int .i64 x]) (by simp [results, Tryd.results75, go_sem]) rfl (ApplyPost.mk (by rw [applyF_add]; exact Hr.out) (by ((repeat (first | with_reducible refine Below.drew ?_ | (with_reducible refine Below.alloc ?_ ?_ _; rotate_left; (focus (first | (simp; done) | (simp; omega) | omega))) | (with_reducible refine Below.setCell ?_ ?_ _; rotate_left; (focus (first | (simp; done) | (simp; omega) | omega))))); (first | with_reducible exact Below.refl _ _ | with_reducible assumption))))

set_option maxHeartbeats 1000000 in
theorem apply_sub (A : Option Addr) (n cap : Nat) (vs : List Val) (a : Val) (b : Val) (w : World) (hV : Vals w w.heap.size A vs) (hn : vs.length = n) (h2 : 2 ≤ n) (ha : vs[n - 2]? = some a) (hb : vs[n - 1]? = some b) (hm : n ≤ maxLen) (s1 : a.plus.size ≤ 140737488355328) (s2 : a.minus.size ≤ 140737488355328) (s3 : b.plus.size ≤ 140737488355328) (s4 : b.minus.size ≤ 140737488355328) :
    Calls Tryd.prog 75 #[.int .i64 9, .slice A n cap] w (ApplyPost 9 a b w) := by
  have hl : n - 2 < n := by have := (List.getElem?_eq_some_iff.1 ha).1; omega
  obtain ⟨bl, off, rfl, -, -⟩ := hV.2 (by omega)
  obtain ⟨hbl, c0, c1, c2⟩ := Vals.cells_at hV hb
  obtain ⟨_, d0, d1, d2⟩ := Vals.cells_at hV ha
  clear hV hn hb ha
  unfold maxLen at hm
  obtain ⟨q, rfl⟩ : ∃ q, n = q + 2 := ⟨n - 2, by omega⟩
  simp only [Nat.add_sub_cancel, show q + 2 - 1 = q + 1 from rfl] at c0 c1 c2 d0 d1 d2
  go_enter Tryd.func75, Tryd.ntmps75
  go_wp2_with fail
  go_region_with (first | (go_at_call 96; refine (neg_any _ _ _ _).mono ?_; rintro e w1 ⟨rfl, o1, o2, rfl⟩) | (go_at_call 97; refine (add_any _ _ _ _ _ _ _ (by assumption) (by assumption) (by assumption) (by assumption)).mono ?_; rintro e w1 ⟨r, x, o4, o5, o6, o7, o8, o9, o10, hr, rfl, rfl⟩; have Hr := Lib.hid hr; clear hr))
  all_goals go_wp2_with fail
  all_goals (exact bodyPost_ret (v := .tuple #[.agg #[.int .i64 r.add, .string r.plus, .string r.minus], .int .i64 x]) (by simp [results, Tryd.results75, go_sem]) rfl (ApplyPost.mk (by rw [applyF_sub]; exact Hr.out) (by ((repeat (first | with_reducible refine Below.drew ?_ | (with_reducible refine Below.alloc ?_ ?_ _; rotate_left; (focus (first | (simp; done) | (simp; omega) | omega))) | (with_reducible refine Below.setCell ?_ ?_ _; rotate_left; (focus (first | (simp; done) | (simp; omega) | omega))))); (first | with_reducible exact Below.refl _ _ | with_reducible assumption)))))

set_option maxHeartbeats 1000000 in
theorem apply_num (k : Int) (k3 : (k == 3) = false) (k4 : (k == 4) = false) (k8 : (k == 8) = false) (k9 : (k == 9) = false) (A : Option Addr) (n cap : Nat) (vs : List Val) (a : Val) (b : Val) (w : World) (hV : Vals w w.heap.size A vs) (hn : vs.length = n) (h2 : 2 ≤ n) (ha : vs[n - 2]? = some a) (hb : vs[n - 1]? = some b) (hm : n ≤ maxLen) :
    Calls Tryd.prog 75 #[.int .i64 k, .slice A n cap] w (ApplyPost k a b w) := by
  have hl : n - 2 < n := by have := (List.getElem?_eq_some_iff.1 ha).1; omega
  obtain ⟨bl, off, rfl, -, -⟩ := hV.2 (by omega)
  obtain ⟨hbl, c0, c1, c2⟩ := Vals.cells_at hV hb
  obtain ⟨_, d0, d1, d2⟩ := Vals.cells_at hV ha
  clear hV hn hb ha
  unfold maxLen at hm
  obtain ⟨q, rfl⟩ : ∃ q, n = q + 2 := ⟨n - 2, by omega⟩
  simp only [Nat.add_sub_cancel, show q + 2 - 1 = q + 1 from rfl] at c0 c1 c2 d0 d1 d2
  by_cases ha : plainB a.plus a.minus = true
  · by_cases hb : plainB b.plus b.minus = true
    · have hx := Lib.hid (applyF_num k3 k4 k8 k9 ha hb)
      go_enter Tryd.func75, Tryd.ntmps75
      go_wp2_with (first | (go_at_call 68; refine (plain_any _ _ _ _).mono ?_; rintro e w1 ⟨rfl, o3, rfl⟩) | (go_at_call 98; refine (numbers_any _ _ _ _).mono ?_; rintro e w1 ⟨rfl, rfl⟩))
      exact bodyPost_ret (v := .tuple #[.agg #[.int .i64 (numF k a.add b.add).1, .string ⟨#[]⟩, .string ⟨#[]⟩], .int .i64 (numF k a.add b.add).2]) (by simp [results, Tryd.results75, go_sem]) rfl (ApplyPost.mk hx.out (by ((repeat (first | with_reducible refine Below.drew ?_ | (with_reducible refine Below.alloc ?_ ?_ _; rotate_left; (focus (first | (simp; done) | (simp; omega) | omega))) | (with_reducible refine Below.setCell ?_ ?_ _; rotate_left; (focus (first | (simp; done) | (simp; omega) | omega))))); (first | with_reducible exact Below.refl _ _ | with_reducible assumption))))
    · have hb' : plainB b.plus b.minus = false := by simpa using hb
      have hx := Lib.hid (applyF_num_bad (a := a) k3 k4 k8 k9 (.inr hb'))
      go_enter Tryd.func75, Tryd.ntmps75
      go_wp2_with (first | (go_at_call 68; refine (plain_any _ _ _ _).mono ?_; rintro e w1 ⟨rfl, o3, rfl⟩))
      exact bodyPost_ret (v := .tuple #[.agg #[.int .i64 0, .string ⟨#[]⟩, .string ⟨#[]⟩], .int .i64 91]) (by simp [results, Tryd.results75, go_sem]) rfl (ApplyPost.mk hx.out (by ((repeat (first | with_reducible refine Below.drew ?_ | (with_reducible refine Below.alloc ?_ ?_ _; rotate_left; (focus (first | (simp; done) | (simp; omega) | omega))) | (with_reducible refine Below.setCell ?_ ?_ _; rotate_left; (focus (first | (simp; done) | (simp; omega) | omega))))); (first | with_reducible exact Below.refl _ _ | with_reducible assumption))))
  · have ha' : plainB a.plus a.minus = false := by simpa using ha
    have hx := Lib.hid (applyF_num_bad (b := b) k3 k4 k8 k9 (.inl ha'))
    go_enter Tryd.func75, Tryd.ntmps75
    go_wp2_with (first | (go_at_call 68; refine (plain_any _ _ _ _).mono ?_; rintro e w1 ⟨rfl, o3, rfl⟩))
    exact bodyPost_ret (v := .tuple #[.agg #[.int .i64 0, .string ⟨#[]⟩, .string ⟨#[]⟩], .int .i64 91]) (by simp [results, Tryd.results75, go_sem]) rfl (ApplyPost.mk hx.out (by ((repeat (first | with_reducible refine Below.drew ?_ | (with_reducible refine Below.alloc ?_ ?_ _; rotate_left; (focus (first | (simp; done) | (simp; omega) | omega))) | (with_reducible refine Below.setCell ?_ ?_ _; rotate_left; (focus (first | (simp; done) | (simp; omega) | omega))))); (first | with_reducible exact Below.refl _ _ | with_reducible assumption))))

end Go.Proofs.YtcdbldakjepjiaaDoor.Ex

/-! ## Ef -/
namespace Go.Proofs.YtcdbldakjepjiaaDoor.Ex
open Go.RowKit
attribute [local go_sem ↓] Go.wp_at_zero Go.wp_at_succ

theorem ApplyPost.unary {k : Int} (h : takesF k = 1) {a a' b : Val} {w : World} {e : Ending} {w' : World} (p : ApplyPost k a b w e w') : ApplyPost k a' b w e w' := by
  obtain ⟨r, x, hr, he, hb⟩ := p
  exact ⟨r, x, by rw [← hr]; exact applyF_unary h _ _ _, he, hb⟩

/-- apply, whatever the operator. -/
theorem apply_any (k : Int) (hk : ¬ takesF k = 0) (A : Option Addr) (n cap : Nat) (vs : List Val) (w : World) (hV : Vals w w.heap.size A vs) (hn : vs.length = n) (hle : takesF k ≤ n) (hm : n ≤ maxLen) (hsz : ∀ v ∈ vs, v.le 140737488355328) :
    Calls Tryd.prog 75 #[.int .i64 k, .slice A n cap] w (ApplyPost k (vs.getD (vs.length - 2) zeroV) (vs.getD (vs.length - 1) zeroV) w) := by
  have tb := takesF_bd k
  have hlt : n - 1 < vs.length := by omega
  have hb : vs[n - 1]? = some (vs.getD (vs.length - 1) zeroV) := by rw [hn, List.getD_eq_getElem?_getD, List.getElem?_eq_getElem hlt]; rfl
  obtain ⟨b, eb⟩ : ∃ b, b = vs.getD (vs.length - 1) zeroV := ⟨_, rfl⟩
  rw [← eb] at hb ⊢
  have sb := hsz b (List.mem_of_getElem? hb)
  by_cases h3 : k = 3
  · subst h3
    exact (apply_neg A n cap vs b w hV hn hb hm).mono fun e w' h => h.unary rfl
  by_cases h4 : k = 4
  · subst h4
    exact (apply_not A n cap vs b w hV hn hb hm).mono fun e w' h => h.unary rfl
  have h2 : takesF k = 2 := by
    unfold takesF at hk ⊢
    rw [if_neg (by omega)] at hk ⊢
    split at hk
    · rw [if_pos (by assumption)]
    · exact (hk rfl).elim
  have ha : vs[n - 2]? = some (vs.getD (vs.length - 2) zeroV) := by rw [hn, List.getD_eq_getElem?_getD, List.getElem?_eq_getElem (show n - 2 < vs.length by omega)]; rfl
  obtain ⟨a, ea⟩ : ∃ a, a = vs.getD (vs.length - 2) zeroV := ⟨_, rfl⟩
  rw [← ea] at ha ⊢
  have sa := hsz a (List.mem_of_getElem? ha)
  by_cases h8 : k = 8
  · subst h8
    exact apply_add A n cap vs a b w hV hn (by omega) ha hb hm sa.1 sa.2 sb.1 sb.2
  by_cases h9 : k = 9
  · subst h9
    exact apply_sub A n cap vs a b w hV hn (by omega) ha hb hm sa.1 sa.2 sb.1 sb.2
  exact apply_num k (by simpa using h3) (by simpa using h4) (by simpa using h8) (by simpa using h9) A n cap vs a b w hV hn (by omega) ha hb hm

def EvalPost (ts : List Term) (w : World) (e : Ending) (w' : World) : Prop :=
  ∃ r x, evalAll ts = (r, x) ∧ e = .returned (.tuple #[.agg #[.int .i64 r.add, .string r.plus, .string r.minus], .int .i64 x]) ∧ Below w.heap.size w w'

theorem EvalPost.mk {ts : List Term} {w w' : World} {a : Int} {p m : ByteArray} {x : Int} (h : evalAll ts = (⟨a, p, m⟩, x)) (hb : Below w.heap.size w w') :
    EvalPost ts w (.returned (.tuple #[.agg #[.int .i64 a, .string p, .string m], .int .i64 x])) w' := ⟨_, _, h, rfl, hb⟩

theorem val_info : (Tryd.prog.info? 51).map (fun i => (i.zero, i.size, i.bytes)) = some (some (.agg #[.int .i64 0, .string ⟨#[]⟩, .string ⟨#[]⟩]), 3, 40) := by kernel_rfl

theorem ownsRow_below {w w' : World} {base : Nat} {e : TypeId} {size : Nat} {v : Value} {n : Nat} {xs : List Value} (h : w.ownsRow base e size v n xs) {B : Nat} (hb : Below B w w') (hB : ∀ g, v.ownBlock = some g → g < B) : w'.ownsRow base e size v n xs := by
  refine ⟨h.1, ?_⟩
  rcases h.2 with h0 | ⟨g, cap, cur, hv, hg, hh, r⟩
  · exact .inl h0
  · exact .inr ⟨g, cap, cur, hv, hg, (hb.block g (hB g (by rw [hv]; rfl))).trans hh, r⟩

/-- a slice that the call owns reads as what it holds -/
theorem SL.of_own {w : World} {base : Nat} {e : TypeId} {sz : Nat} {A : Option Addr} {n c : Nat} {xs : List Value} (h : w.ownsRow base e sz (.slice A n c) n xs) : SL w w.heap.size sz A n xs := by
  refine ⟨h.1, fun hn => ?_⟩
  obtain ⟨g, cap, hv, _, hlt⟩ := h.form hn
  injection hv with hA
  subst hA
  refine ⟨g, 0, rfl, hlt, fun j u hu => ?_⟩
  have := h.cells (g := g) rfl j u hu
  simpa [Addr.add] using (by unfold Addr.add at this; split at this <;> simp_all : w.cell? ⟨g, 0 + j, none⟩ = some u)

theorem getD_le {vs : List Val} {k i : Nat} (h : ∀ v ∈ vs, v.le k) : (vs.getD i zeroV).le k := by
  rw [List.getD_eq_getElem?_getD]
  cases e : vs[i]? with
  | none => exact le_emp _ _
  | some v => exact h v (List.mem_of_getElem? e)

theorem own_two {w : World} {base : Nat} {e : TypeId} {sz n c : Nat} {A : Option Addr} {xs : List Value} (h : w.ownsRow base e sz (.slice A n c) n xs) : (A = none ∧ c = 0 ∧ n = 0) ∨ ∃ g, A = some ⟨g, 0, none⟩ ∧ base ≤ g ∧ g < w.heap.size := by
  rcases h.2 with ⟨hv, h0⟩ | ⟨g, cap, cur, hv, hg, hh, _⟩
  · injection hv with h1 h2 h3
    exact .inl ⟨h1, h3, h0⟩
  · injection hv with h1 h2 h3
    refine .inr ⟨g, h1, hg, ?_⟩
    rcases Nat.lt_or_ge g w.heap.size with hlt | hge
    · exact hlt
    · rw [Array.getElem?_eq_none hge] at hh; cases hh

theorem own_cap {w : World} {base : Nat} {e : TypeId} {sz n c : Nat} {A : Option Addr} {xs : List Value} (h : w.ownsRow base e sz (.slice A n c) n xs) : n ≤ c := by
  rcases h.2 with ⟨hv, h0⟩ | ⟨g, cap, cur, hv, hg, hh, hn, _⟩
  · omega
  · injection hv with h1 h2 h3
    omega

/-- what the call owns stays while another block is written -/
theorem own_far {w : World} {base : Nat} {e : TypeId} {size : Nat} {v : Value} {n : Nat} {xs : List Value} (h : w.ownsRow base e size v n xs) {a : Addr} {u : Value} (ha : v.ownBlock ≠ some a.block) : (w.setCell a u).ownsRow base e size v n xs := by
  refine ⟨h.1, ?_⟩
  rcases h.2 with h0 | ⟨g, cap, cur, hv, hg, hh, r⟩
  · exact .inl h0
  · exact .inr ⟨g, cap, cur, hv, hg, by rw [Below.heap_setCell _ _ _ _ (fun e => ha (by rw [hv, e]; rfl))]; exact hh, r⟩

theorem ownsRow_take {w : World} {base : Nat} {e : TypeId} {size g cap n n' : Nat} {xs : List Value} (h : w.ownsRow base e size (.slice (some ⟨g, 0, none⟩) n cap) n xs) (hn : n' ≤ n) :
    w.ownsRow base e size (.slice (some ⟨g, 0, none⟩) n' cap) n' (xs.take (n' * size)) := by
  have hx := h.1
  have hm : n' * size ≤ n * size := Nat.mul_le_mul_right _ hn
  refine ⟨by rw [List.length_take]; omega, ?_⟩
  rcases h.2 with ⟨h0, _⟩ | ⟨g', cap', cur, hv, hg, hh, hnc, hcap, hsz, htake⟩
  · cases h0
  · cases hv
    refine .inr ⟨g, cap, cur, rfl, hg, hh, by omega, hcap, hsz, ?_⟩
    rw [← htake, List.take_take, Nat.min_eq_left hm]

theorem flat_take {α : Type} (f : α → List Value) (sz : Nat) (hf : ∀ x, (f x).length = sz) : ∀ (l : List α) (n : Nat), (l.flatMap f).take (n * sz) = (l.take n).flatMap f
  | [], n => by simp
  | y :: r, 0 => by simp
  | y :: r, n + 1 => by
    rw [List.flatMap_cons, List.take_succ_cons, List.flatMap_cons, ← flat_take f sz hf r n, List.take_append, hf, Nat.succ_mul, Nat.add_sub_cancel, List.take_of_length_le (by rw [hf]; omega)]

set_option maxRecDepth 100000 in
set_option maxHeartbeats 4000000 in
theorem eval_any (A : Option Addr) (cap : Nat) (ts : List Term) (w : World) (hT : Terms w w.heap.size A ts) (hl : ts.length ≤ 1099511627776) (hsz : ∀ t ∈ ts, t.sym.size ≤ 140737488355328) :
    Calls Tryd.prog 35 #[.slice A ts.length cap] w (EvalPost ts w) := by
  have HT := Lib.hid hT
  have HZ := Lib.hid hsz
  have HC := fun (W : World) (h : Terms W W.heap.size A ts) => check_any A cap ts W h (by unfold maxLen; omega) (fun t ht => Nat.le_trans (hsz t ht) (by unfold maxLen; omega))
  have HCC := Lib.hid HC
  clear hT hsz HC
  by_cases hc : checkF ts = 0
  · go_enter Tryd.func35, Tryd.ntmps35
    go_wp2_with fail
    refine (HCC.out _ ?_).mono ?_
    · exact (SL.below HT.out ((Below.refl _ _).alloc (Nat.le_refl _) _)).more (by simp)
    rintro e w1 ⟨rfl, hb1⟩
    have hs1 := hb1.size
    simp at hs1
    obtain ⟨k0, f0⟩ := bat hb1 (b := w.heap.size) (by simp)
    have hB1 : Below w.heap.size w w1 := ((Below.refl _ _).alloc (Nat.le_refl _) _).trans (hb1.mono (by simp))
    have q0 : w1.cell? ⟨w.heap.size, 0, none⟩ = some (.int .i64 0) := by rw [k0]; simp [go_sem]
    have q1 : w1.cell? ⟨w.heap.size, 1, none⟩ = some (.string ⟨#[]⟩) := by rw [k0]; simp [go_sem]
    have q2 : w1.cell? ⟨w.heap.size, 2, none⟩ = some (.string ⟨#[]⟩) := by rw [k0]; simp [go_sem]
    have fz : ∀ o, w1.frozen? ⟨w.heap.size, o, none⟩ = false := fun o => by rw [f0]; simp [go_sem]
    clear hb1 k0 f0
    have hc0 : (checkF ts != 0) = false := by simpa using hc
    have HF : Hid (formF 0 ts = 0) := checkF_form hc
    have HE : Hid (evalAll ts = evalF [] ts) := show _ = _ by rw [evalAll, if_pos hc]
    clear hc
    go_wp2_with fail
    go_loopw [5, 19] (fun sv i wr => ∃ (k : Nat) (vs : List Val) (A' : Option Addr) (c' : Nat), k ≤ ts.length ∧ i = .int .i64 k ∧ sv = .slice A' vs.length c' ∧ vs.length ≤ k ∧ wr.ownsRow (w.heap.size + 1) 51 3 (.slice A' vs.length c') vs.length (vs.flatMap Val.cells) ∧ Hid (formF vs.length (ts.drop k) = 0) ∧ Hid (evalF vs (ts.drop k) = evalF [] ts) ∧ Hid (∀ v ∈ vs, v.le 140737488355328) ∧ Below (w.heap.size + 1) w1 wr) (fun _ i _ => ts.length - (intOf i).toNat)
    case atStart => exact ⟨0, [], none, 0, Nat.zero_le _, rfl, rfl, Nat.le_refl _, World.ownsRow_nil _ _ _ _, HF, show _ = _ by simp, show ∀ v ∈ _, _ from fun v hv => (List.not_mem_nil hv).elim, Below.refl _ _⟩
    case round =>
      obtain ⟨k, vs, A', c', hk, rfl, rfl, hvk, hown, hf, hev, hle, hb⟩ := hrel
      obtain ⟨kk0, ff0⟩ := bat hb (b := w.heap.size) (by omega)
      have r0 := (kk0 0).trans q0
      have r1 := (kk0 1).trans q1
      have r2 := (kk0 2).trans q2
      have rf := fun o => (ff0 o).trans (fz o)
      have HQ : Hid (_ ∧ _ ∧ _ ∧ _) := ⟨q0, q1, q2, fz⟩
      clear kk0 ff0 q0 q1 q2 fz
      have hsz := hb.size
      have hB : Below w.heap.size w wr := hB1.trans (hb.mono (by omega))
      by_cases hlt : k < ts.length
      · obtain ⟨t, ht⟩ : ∃ t, ts[k]? = some t := ⟨_, List.getElem?_eq_getElem hlt⟩
        have Ht := Lib.hid ht
        have hz := HZ.out t (List.mem_of_getElem? ht)
        have hd : Hid (ts.drop k = t :: ts.drop (k + 1)) := show _ = _ by rw [List.drop_eq_getElem_cons hlt]; congr 1; rw [List.getElem?_eq_getElem hlt] at ht; injection ht
        clear ht
        obtain ⟨b, off, rfl, -, -⟩ := HT.out.2 (by omega)
        obtain ⟨hbb, c0, c1, c2⟩ := Terms.cells_at (SL.below HT.out (hB1.trans (hb.mono (by omega)))) Ht.out
        obtain ⟨_, tle, hf'⟩ := formF_cons (by have := hf.out; rwa [hd.out] at this)
        have HF' := Lib.hid hf'
        clear hf'
        have tb := takesF_bd t.kind
        obtain ⟨K, hK⟩ : ∃ K : Nat, takesF t.kind = K := ⟨(takesF t.kind).toNat, by omega⟩
        have HK := Lib.hid hK
        have htk : ∀ W, Calls Tryd.prog 74 #[.int .i64 t.kind] W fun e w' => e = .returned (.int .i64 (K : Int)) ∧ W = w' := fun W => by rw [← hK]; exact takes_any _ _
        have HTK := Lib.hid htk
        rw [hK] at tle tb
        clear htk hK
        go_upto_if 32 with (go_at_call 74; refine (HTK.out _).mono ?_; rintro e w' ⟨rfl, rfl⟩)
        go_cut [] (fun wx => ∃ v : Val, Hid (evalF (vs.take (vs.length - K) ++ [v]) (ts.drop (k + 1)) = evalF [] ts) ∧ Hid (v.le 140737488355328) ∧ wx.cell? ⟨wr.heap.size + 1, 0, none⟩ = some (.int .i64 v.add) ∧ wx.cell? ⟨wr.heap.size + 1, 1, none⟩ = some (.string v.plus) ∧ wx.cell? ⟨wr.heap.size + 1, 2, none⟩ = some (.string v.minus) ∧ Below (w.heap.size + 1) w1 wx ∧ wr.heap.size + 2 ≤ wx.heap.size ∧ wx.ownsRow (w.heap.size + 1) 51 3 (.slice A' vs.length c') vs.length (vs.flatMap Val.cells))
        case first =>
          rcases Nat.eq_zero_or_pos K with h0 | h0
          · subst h0
            go_wp2_with fail
            go_meet
            refine ⟨⟨t.n, t.sym, emp⟩, ?_, ⟨hz, Nat.zero_le _⟩, by simp [go_sem], by simp [go_sem], by simp [go_sem, emp], (by ((repeat (first | with_reducible refine Below.drew ?_ | (with_reducible refine Below.alloc ?_ ?_ _; rotate_left; (focus (first | (simp; done) | (simp; omega) | omega))) | (with_reducible refine Below.setCell ?_ ?_ _; rotate_left; (focus (first | (simp; done) | (simp; omega) | omega))))); (first | with_reducible exact Below.refl _ _ | with_reducible assumption))), by simp, (hown.alloc _).alloc _⟩
            show evalF (vs.take (vs.length - 0) ++ [_]) _ = _
            rw [Nat.sub_zero, List.take_length, ← evalF_leaf (by simpa using HK.out), ← hd.out]
            exact hev.out
          · have h0' : (0 : Int) < K := by omega
            go_wp2_with fail
            refine (apply_any t.kind (by rw [HK.out]; omega) A' vs.length c' vs _ (SL.of_own ((hown.alloc _).alloc _)) rfl (by rw [HK.out]; omega) (by unfold maxLen; omega) hle.out).mono ?_
            rintro e w2 ⟨r, x, hr, rfl, hb2⟩
            have Hr := Lib.hid hr
            have hs2 := hb2.size
            simp at hs2
            obtain ⟨kv, fv⟩ := bat hb2 (b := wr.heap.size + 1) (by simp)
            have rle : r.le 140737488355328 := by
              have h1 := applyF_le t.kind (a := vs.getD (vs.length - 2) zeroV) (b := vs.getD (vs.length - 1) zeroV) (k := 140737488355328) (getD_le hle.out) (getD_le hle.out)
              rwa [hr] at h1
            have hown2 := ownsRow_below ((hown.alloc (.cells #[.int .i64 t.kind, .int .i64 t.n, .string t.sym] 91)).alloc (.cells #[.int .i64 t.n, .string t.sym, .string ⟨#[]⟩] 51)) hb2 (fun g hg => (((hown.alloc _).alloc _).lt g hg).2)
            have hB2 : Below (w.heap.size + 1) w1 w2 := ((by ((repeat (first | with_reducible refine Below.drew ?_ | (with_reducible refine Below.alloc ?_ ?_ _; rotate_left; (focus (first | (simp; done) | (simp; omega) | omega))) | (with_reducible refine Below.setCell ?_ ?_ _; rotate_left; (focus (first | (simp; done) | (simp; omega) | omega))))); (first | with_reducible exact Below.refl _ _ | with_reducible assumption))) : Below (w.heap.size + 1) w1 ((wr.alloc (.cells #[.int .i64 t.kind, .int .i64 t.n, .string t.sym] 91)).alloc (.cells #[.int .i64 t.n, .string t.sym, .string ⟨#[]⟩] 51))).trans (hb2.mono (by simp; omega))
            obtain ⟨kw, fw⟩ := bat hB2 (b := w.heap.size) (by omega)
            have v0 := (kw 0).trans HQ.out.1
            have v1 := (kw 1).trans HQ.out.2.1
            have v2 := (kw 2).trans HQ.out.2.2.1
            have vf := fun o => (fw o).trans (HQ.out.2.2.2 o)
            have u0 : w2.cell? ⟨wr.heap.size + 1, 0, none⟩ = some (.int .i64 t.n) := by rw [kv]; simp [go_sem]
            have u1 : w2.cell? ⟨wr.heap.size + 1, 1, none⟩ = some (.string t.sym) := by rw [kv]; simp [go_sem]
            have u2 : w2.cell? ⟨wr.heap.size + 1, 2, none⟩ = some (.string ⟨#[]⟩) := by rw [kv]; simp [go_sem]
            have uf : ∀ o, w2.frozen? ⟨wr.heap.size + 1, o, none⟩ = false := fun o => by rw [fv]; simp [go_sem]
            clear kw fw kv fv
            have RL := Lib.hid rle
            have hne9 : (Value.slice A' vs.length c').ownBlock ≠ some (wr.heap.size + 1) := fun h => by have := (hown.lt _ h).2; omega
            clear hr hb2 rle
            by_cases hx0 : x = 0
            · subst hx0
              go_wp2_with fail
              go_meet
              refine ⟨r, ?_, RL.out, by simp [go_sem, u0, u1, u2], by simp [go_sem, u0, u1, u2], by simp [go_sem, u0, u1, u2], (by ((repeat (first | with_reducible refine Below.drew ?_ | (with_reducible refine Below.alloc ?_ ?_ _; rotate_left; (focus (first | (simp; done) | (simp; omega) | omega))) | (with_reducible refine Below.setCell ?_ ?_ _; rotate_left; (focus (first | (simp; done) | (simp; omega) | omega))))); (first | with_reducible exact Below.refl _ _ | with_reducible assumption))), by simp; omega, ?_⟩
              · show _ = _
                rw [← hev.out, hd.out, evalF_op (by rw [HK.out]; omega) Hr.out, HK.out]; rfl
              · exact own_far (own_far (own_far hown2 hne9) hne9) hne9
            · have hxne : (x != 0) = true := by simpa using hx0
              have hB3 : Below w.heap.size w w2 := hB1.trans (hB2.mono (by omega))
              go_wp2_with fail
              exact bodyPost_ret (v := .tuple #[.agg #[.int .i64 0, .string ⟨#[]⟩, .string ⟨#[]⟩], .int .i64 x]) (by simp [results, Tryd.results35, go_sem, v0, v1, v2]) rfl (EvalPost.mk (by rw [HE.out, ← hev.out, hd.out, evalF_bad (by rw [HK.out]; omega) hx0 Hr.out]; rfl) (by ((repeat (first | with_reducible refine Below.drew ?_ | (with_reducible refine Below.alloc ?_ ?_ _; rotate_left; (focus (first | (simp; done) | (simp; omega) | omega))) | (with_reducible refine Below.setCell ?_ ?_ _; rotate_left; (focus (first | (simp; done) | (simp; omega) | omega))))); (first | with_reducible exact Below.refl _ _ | with_reducible assumption))))
        case rest =>
          obtain ⟨v, hv, hvl, b0, b1, b2, hbx, hsx, hox⟩ := hcut
          obtain ⟨i0, hi0, hz0, hz1, hz2⟩ := info_parts val_info
          rcases own_two hox with ⟨rfl, rfl, hn0⟩ | ⟨g, rfl, hgB, hgx⟩
          · have hvs : vs = [] := List.eq_nil_of_length_eq_zero hn0
            subst hvs
            obtain rfl : K = 0 := by simp at tle; omega
            have hw : IntKind.i64.wrap 0 = 0 := by rw [IntKind.wrap_i64]; omega
            go_wp2_with fail
            go_region_held3 (fun w' => w'.cell? ⟨wr.heap.size + 1, 0, none⟩ = some (.int .i64 v.add) ∧ w'.cell? ⟨wr.heap.size + 1, 1, none⟩ = some (.string v.plus) ∧ w'.cell? ⟨wr.heap.size + 1, 2, none⟩ = some (.string v.minus)) (first | (go_keep; done) | (go_split_ands; refine ⟨?_, ?_, ?_⟩ <;> (rw [hgrow.cell_far _ (by simp; omega) (by first | (simp [Value.ownBlock]; done) | (simp [Value.ownBlock]; omega))]; first | assumption | go_keep)))
              ((refine step_append_lies _ (by rfl) _ _ _ (by rfl) (w.heap.size + 1) 51 i0 _ 3 40 Tryd.underlying100 hi0 hz0 hz1 hz2 rfl (by omega) (.slice none 0 0) 0 [] (by rfl) (World.ownsRow_nil _ _ _ _) ⟨wc.heap.size, 0, none⟩ 1 1 [.int .i64 v.add, .string v.plus, .string v.minus] (by rfl) (by rfl) (World.news_of_block (cs := #[.int .i64 v.add, .string v.plus, .string v.minus]) (t := 51) (fr := (0, 0)) (heap_alloc_new wc _)) (by simp [Value.oneCell']) (by omega) (by simp only [maxLen]; omega) (by omega) (by simp; omega) (wc.heap.size + 1) (by simp) ?_; intro gg cap2 w3 hown3 hgrow hat hlt3))
            go_wp2_with fail
            go_roundw
            case rel =>
              refine ⟨k + 1, [v], some ⟨gg, 0, none⟩, cap2, by omega, by go_num, rfl, by simp, by simpa [Val.cells] using hown3, ?_, by simpa using hv, ?_, ?_⟩
              · show formF _ _ = 0
                rw [← HF'.out, HK.out]
                congr 1
              · intro u hu
                rw [List.mem_singleton.1 hu]; exact hvl.out
              · exact ((hbx.alloc (by omega) _).drew).grown hgrow (by simp; omega) (fun q hq => by simp [Value.ownBlock] at hq)
            case measure => simp [intOf]; omega
          · have hot := ownsRow_take (n' := vs.length - K) hox (by omega)
            rw [flat_take Val.cells 3 (fun _ => rfl)] at hot
            have hw : IntKind.i64.wrap ((vs.length : Int) - (K : Int)) = ((vs.length - K : Nat) : Int) := by rw [IntKind.wrap_i64]; omega
            have hcl := own_cap hox
            have hg9 : g < wr.heap.size := (hown.lt g rfl).2
            have hcl' : ((vs.length - K : Nat) : Int) ≤ (c' : Int) := by omega
            have hcl0 : (0 : Int) ≤ ((vs.length - K : Nat) : Int) := by omega
            go_wp2_with fail
            go_region_held3 (fun w' => w'.cell? ⟨wr.heap.size + 1, 0, none⟩ = some (.int .i64 v.add) ∧ w'.cell? ⟨wr.heap.size + 1, 1, none⟩ = some (.string v.plus) ∧ w'.cell? ⟨wr.heap.size + 1, 2, none⟩ = some (.string v.minus)) (first | (go_keep; done) | (go_split_ands; refine ⟨?_, ?_, ?_⟩ <;> (rw [hgrow.cell_far _ (by simp; omega) (by first | (simp [Value.ownBlock]; done) | (simp [Value.ownBlock]; omega))]; first | assumption | go_keep)))
              ((refine step_append_lies _ (by rfl) _ _ _ (by rfl) (w.heap.size + 1) 51 i0 _ 3 40 Tryd.underlying100 hi0 hz0 hz1 hz2 rfl (by omega) (.slice (some ⟨g, 0, none⟩) (vs.length - K) c') (vs.length - K) ((vs.take (vs.length - K)).flatMap Val.cells) (by rfl) ((hot.alloc _).drew) ⟨wc.heap.size, 0, none⟩ 1 1 [.int .i64 v.add, .string v.plus, .string v.minus] (by rfl) (by rfl) (World.news_of_block (cs := #[.int .i64 v.add, .string v.plus, .string v.minus]) (t := 51) (fr := (0, 0)) (heap_alloc_new wc _)) (by simp [Value.oneCell']) (by omega) (by simp only [maxLen]; omega) (by omega) (by simp; omega) (wc.heap.size + 1) (by simp) ?_; intro gg cap2 w3 hown3 hgrow hat hlt3))
            go_wp2_with fail
            go_roundw
            case rel =>
              refine ⟨k + 1, vs.take (vs.length - K) ++ [v], some ⟨gg, 0, none⟩, cap2, by omega, by go_num, ?_, ?_, ?_, ?_, hv, ?_, ?_⟩
              · rw [List.length_append, List.length_take, Nat.min_eq_left (by omega)]; rfl
              · rw [List.length_append, List.length_take, Nat.min_eq_left (by omega)]; show vs.length - K + 1 ≤ k + 1; omega
              · rw [List.length_append, List.length_take, Nat.min_eq_left (by omega), List.flatMap_append]; simpa [Val.cells] using hown3
              · show formF _ _ = 0
                rw [List.length_append, List.length_take, Nat.min_eq_left (by omega), ← HF'.out, HK.out]
                congr 1
                simp; omega
              · intro u hu
                rcases List.mem_append.1 hu with h1 | h1
                · exact hle.out u (List.mem_of_mem_take h1)
                · rw [List.mem_singleton.1 h1]; exact hvl.out
              · exact ((hbx.alloc (by omega) _).drew).grown hgrow (by simp; omega) (fun q hq => by simp [Value.ownBlock] at hq; omega)
            case measure => simp [intOf]; omega
      · have hd : Hid (ts.drop k = []) := show _ = _ by rw [List.drop_eq_nil_of_le (by omega)]
        have h1 : vs.length = 1 := by have := formF_nil (by have := hf.out; rwa [hd.out] at this); omega
        obtain ⟨v, rfl⟩ : ∃ v, vs = [v] := by
          match vs, h1 with
          | [v], _ => exact ⟨v, rfl⟩
        have hres : Hid (evalAll ts = (v, 0)) := show _ = _ by rw [HE.out, ← hev.out, hd.out]; rfl
        rcases own_two hown with ⟨_, _, h0⟩ | ⟨g, rfl, hgB, hgx⟩
        · cases h0
        · have e0 : wr.cell? ⟨g, 0, none⟩ = some (.int .i64 v.add) := by rw [hown.cellAt 0 (by simp)]; rfl
          have e1 : wr.cell? ⟨g, 1, none⟩ = some (.string v.plus) := by rw [hown.cellAt 1 (by simp)]; rfl
          have e2 : wr.cell? ⟨g, 2, none⟩ = some (.string v.minus) := by rw [hown.cellAt 2 (by simp)]; rfl
          go_wp2_with fail
          exact bodyPost_ret (v := .tuple #[.agg #[.int .i64 v.add, .string v.plus, .string v.minus], .int .i64 0]) (by simp [results, Tryd.results35, go_sem, r0, r1, r2]) rfl (EvalPost.mk hres.out (by ((repeat (first | with_reducible refine Below.drew ?_ | (with_reducible refine Below.alloc ?_ ?_ _; rotate_left; (focus (first | (simp; done) | (simp; omega) | omega))) | (with_reducible refine Below.setCell ?_ ?_ _; rotate_left; (focus (first | (simp; done) | (simp; omega) | omega))))); (first | with_reducible exact Below.refl _ _ | with_reducible assumption))))
  · have hne : (checkF ts != 0) = true := by simpa using hc
    have hx : Hid (evalAll ts = (⟨0, ⟨#[]⟩, ⟨#[]⟩⟩, checkF ts)) := show _ = _ by rw [evalAll, if_neg hc]; rfl
    go_enter Tryd.func35, Tryd.ntmps35
    go_wp2_with fail
    refine (HCC.out _ ?_).mono ?_
    · exact (SL.below HT.out ((Below.refl _ _).alloc (Nat.le_refl _) _)).more (by simp)
    rintro e w1 ⟨rfl, hb1⟩
    have hs1 := hb1.size
    simp at hs1
    obtain ⟨k0, f0⟩ := bat hb1 (b := w.heap.size) (by simp)
    have hB1 : Below w.heap.size w w1 := ((Below.refl _ _).alloc (Nat.le_refl _) _).trans (hb1.mono (by simp))
    go_wp2_with fail
    exact bodyPost_ret (v := .tuple #[.agg #[.int .i64 0, .string ⟨#[]⟩, .string ⟨#[]⟩], .int .i64 (checkF ts)]) (by simp [results, Tryd.results35, go_sem, k0]) rfl (EvalPost.mk hx.out (by ((repeat (first | with_reducible refine Below.drew ?_ | (with_reducible refine Below.alloc ?_ ?_ _; rotate_left; (focus (first | (simp; done) | (simp; omega) | omega))) | (with_reducible refine Below.setCell ?_ ?_ _; rotate_left; (focus (first | (simp; done) | (simp; omega) | omega))))); (first | with_reducible exact Below.refl _ _ | with_reducible assumption))))

end Go.Proofs.YtcdbldakjepjiaaDoor.Ex

/-! ## Eg -/
namespace Go.Proofs.YtcdbldakjepjiaaDoor.Ex
open Go.RowKit

theorem set_some {w : World} {a b : Addr} {v : Value} (h : ∃ u, w.cell? b = some u) : ∃ u, (w.setCell a v).cell? b = some u := by
  obtain ⟨u, hu⟩ := h
  by_cases e : a = b
  · subst e; exact ⟨v, World.cell?_setCell_same _ _ _ hu⟩
  · exact ⟨u, by rw [World.cell?_setCell_other _ _ _ _ e]; exact hu⟩

theorem ten_cells {w : World} {i : Nat} (h : i < 20) {t : TypeId} {v : Value} : ∃ u, (w.alloc (.cells #[v, v, v, v, v, v, v, v, v, v, v, v, v, v, v, v, v, v, v, v] t)).cell? ⟨w.heap.size, i, none⟩ = some u := by
  have hb : (w.alloc (.cells #[v, v, v, v, v, v, v, v, v, v, v, v, v, v, v, v, v, v, v, v] t)).heap[w.heap.size]? = some (.cells #[v, v, v, v, v, v, v, v, v, v, v, v, v, v, v, v, v, v, v, v] t) := heap_alloc_new w _
  rw [cell_of_row _ _ _ _ _ _ hb]
  exact ⟨_, Array.getElem?_eq_getElem (by simpa using h)⟩

set_option maxRecDepth 100000 in
set_option maxHeartbeats 1000000 in
theorem decimal_any (N : Nat) (w : World) (hN : N < 18446744073709551616) :
    Calls Tryd.prog 70 #[.int .u64 N] w fun e w' => e = .returned (.string (decS N)) ∧ Below w.heap.size w w' := by
  have hN' := Lib.hid hN
  go_enter Tryd.func70, Tryd.ntmps70
  go_wp2_with fail
  go_loopw [0, 4] (fun nv av wr => ∃ (p m : Nat) (tail : List UInt8), nv = .int .u64 m ∧ av = .int .i64 p ∧ p + tail.length = 20 ∧ Hid (decG 20 N = decG p m ++ tail) ∧ Hid (m < 10 ^ p) ∧ m ≤ N ∧ (0 < p) ∧ Hid (∀ i c, tail[i]? = some c → wr.cell? ⟨w.heap.size, p + i, none⟩ = some (.int .u8 c.toNat)) ∧ Hid (∀ i, i < 20 → ∃ v, wr.cell? ⟨w.heap.size, i, none⟩ = some v) ∧ (∀ i, wr.frozen? ⟨w.heap.size, i, none⟩ = false) ∧ Below w.heap.size w wr ∧ w.heap.size < wr.heap.size) (fun nv _ _ => (intOf nv).toNat)
  case atStart =>
    exact ⟨20, N, [], rfl, rfl, rfl, show _ = _ by simp, show N < 10 ^ 20 by omega, Nat.le_refl _, by omega, show ∀ i c, _ → _ from fun i c h => by simp at h, show ∀ i, _ → _ from fun i hi => ten_cells hi, by simp [go_sem], (by ((repeat (first | with_reducible refine Below.drew ?_ | (with_reducible refine Below.alloc ?_ ?_ _; rotate_left; (focus (first | (simp; done) | (simp; omega) | omega))) | (with_reducible refine Below.setCell ?_ ?_ _; rotate_left; (focus (first | (simp; done) | (simp; omega) | omega))))); (first | with_reducible exact Below.refl _ _ | with_reducible assumption))), by simp⟩
  case round =>
    obtain ⟨p, m, tail, rfl, rfl, hp, hd, hm, hmN, h0, ht, hc, hf, hb, hz⟩ := hrel
    obtain ⟨q, rfl⟩ : ∃ q, p = q + 1 := ⟨p - 1, by omega⟩
    obtain ⟨v, hv⟩ := hc.out q (by omega)
    have hq20 : (q : Int) ≤ 20 := by omega
    have hcell : (wr.setCell ⟨w.heap.size, q, none⟩ (.int .u8 (48 + (m : Int) % 10))).cell? ⟨w.heap.size, q, none⟩ = some (.int .u8 (48 + (m : Int) % 10)) := World.cell?_setCell_same _ _ _ hv
    have hnew : Hid (∀ i c, (UInt8.ofNat (48 + m % 10) :: tail)[i]? = some c → (wr.setCell ⟨w.heap.size, q, none⟩ (.int .u8 (48 + (m : Int) % 10))).cell? ⟨w.heap.size, q + i, none⟩ = some (.int .u8 c.toNat)) := by
      show ∀ i c, _ → _
      intro i c hi
      cases i with
      | zero =>
        simp only [List.getElem?_cons_zero, Option.some.injEq] at hi
        subst hi
        rw [Nat.add_zero, hcell, UInt8.toNat_ofNat']
        congr 2
        omega
      | succ j =>
        rw [World.cell?_setCell_other _ _ _ _ (by intro e; injection e with _ e; omega), show q + (j + 1) = q + 1 + j by omega]
        exact ht.out j c (by simpa using hi)
    clear hcell
    by_cases h10 : m < 10
    · have h10' : ((m : Int) / 10 == 0) = true := by simp; omega
      have hs : decS N = ⟨(UInt8.ofNat (48 + m % 10) :: tail).toArray⟩ := by
        unfold decS; rw [hd.out, decG, if_pos h10, Nat.mod_eq_of_lt h10]; rfl
      have hconv : ∀ cap, (convert 22 9 (.slice (some ⟨w.heap.size, q, none⟩) (20 - q) cap)).run Tryd.prog (wr.setCell ⟨w.heap.size, q, none⟩ (.int .u8 (48 + (m : Int) % 10))) = .ok (.string (decS N)) (wr.setCell ⟨w.heap.size, q, none⟩ (.int .u8 (48 + (m : Int) % 10))) := fun cap => by
        have hsz : (decS N).size = 20 - q := by rw [hs]; simp [ByteArray.size]; omega
        rw [← hsz]
        refine Lib.run_convert_whole _ _ 5 _ Tryd.underlying22 Tryd.underlying5 Tryd.underlying9 _ _ _ (fun i hi => ?_) cap
        refine hnew.out i _ ?_
        rw [List.getElem?_eq_getElem (by rw [hs] at hi; simpa [ByteArray.size] using hi)]
        congr 1
        simp only [hs]
        rfl
      clear hs
      go_wp2_with fail
      go_ret
      exact ⟨rfl, (by ((repeat (first | with_reducible refine Below.drew ?_ | (with_reducible refine Below.alloc ?_ ?_ _; rotate_left; (focus (first | (simp; done) | (simp; omega) | omega))) | (with_reducible refine Below.setCell ?_ ?_ _; rotate_left; (focus (first | (simp; done) | (simp; omega) | omega))))); (first | with_reducible exact Below.refl _ _ | with_reducible assumption)))⟩
    · have h10' : ((m : Int) / 10 == 0) = false := by simp; omega
      go_wp2_with fail
      go_roundw
      case rel => exact ⟨q, m / 10, UInt8.ofNat (48 + m % 10) :: tail, by go_num, rfl, by simp; omega, show _ = _ by rw [hd.out, decG, if_neg h10]; simp, show _ < _ from dec_pow hm.out, by omega, dec_pos hm.out h10, hnew, show ∀ i, _ → _ from fun i hi => set_some (hc.out i hi), fun i => by simp [go_sem, hf], (by ((repeat (first | with_reducible refine Below.drew ?_ | (with_reducible refine Below.alloc ?_ ?_ _; rotate_left; (focus (first | (simp; done) | (simp; omega) | omega))) | (with_reducible refine Below.setCell ?_ ?_ _; rotate_left; (focus (first | (simp; done) | (simp; omega) | omega))))); (first | with_reducible exact Below.refl _ _ | with_reducible assumption))), by simpa [World.setCell] using hz⟩
      case measure => simp [intOf]; omega

set_option maxHeartbeats 400000 in
theorem signed_neg (n : Int) (w : World) (h : n < 0) (hl : -9223372036854775808 ≤ n) :
    Calls Tryd.prog 69 #[.int .i64 n] w fun e w' => e = .returned (.string (⟨#[45]⟩ ++ decS (-n).toNat)) ∧ Below w.heap.size w w' := by
  have HD := fun (w : World) => decimal_any (-n).toNat w (by omega)
  have HDD := Lib.hid HD
  have HU := Lib.hid (u64_neg h hl)
  have hsz := decS_size (-n).toNat
  clear HD hl
  go_enter Tryd.func69, Tryd.ntmps69
  go_wp2_with fail
  rw [HU.out]
  refine (HDD.out _).mono ?_
  rintro e w' ⟨rfl, hb⟩
  go_wp2_with fail
  go_ret
  exact ⟨rfl, hb⟩

set_option maxHeartbeats 400000 in
theorem signed_pos (n : Int) (w : World) (h : 0 ≤ n) (hl : n ≤ 9223372036854775807) :
    Calls Tryd.prog 69 #[.int .i64 n] w fun e w' => e = .returned (.string (⟨#[43]⟩ ++ decS n.toNat)) ∧ Below w.heap.size w w' := by
  have HD := fun (w : World) => decimal_any n.toNat w (by omega)
  have HDD := Lib.hid HD
  have HU := Lib.hid (u64_pos h hl)
  have hsz := decS_size n.toNat
  clear HD hl
  go_enter Tryd.func69, Tryd.ntmps69
  go_wp2_with fail
  rw [HU.out]
  refine (HDD.out _).mono ?_
  rintro e w' ⟨rfl, hb⟩
  go_wp2_with fail
  go_ret
  exact ⟨rfl, hb⟩

end Go.Proofs.YtcdbldakjepjiaaDoor.Ex

/-! ## Eh -/
namespace Go.Proofs.YtcdbldakjepjiaaDoor.Ex
open Go.RowKit

theorem below_on {w W w2 : World} (h : Below W.heap.size W w2) (h0 : Below w.heap.size w W) : Below w.heap.size w w2 := h0.trans (h.mono h0.size)

def PrintPost (v : Val) (w : World) (e : Ending) (w' : World) : Prop := ∃ s x, printF v = (s, x) ∧ e = .returned (.tuple #[.string s, .int .i64 x]) ∧ Below w.heap.size w w'
theorem PrintPost.mk {v : Val} {w w' : World} {s : ByteArray} {x : Int} (h : printF v = (s, x)) (hb : Below w.heap.size w w') : PrintPost v w (.returned (.tuple #[.string s, .int .i64 x])) w' := ⟨_, _, h, rfl, hb⟩

set_option maxRecDepth 100000 in
set_option maxHeartbeats 1000000 in
theorem print_badP (a : Int) (p m : ByteArray) (w : World) (p1 : ¬ p.toList = []) (p2 : p.toList.isEmpty = false) (p4 : p.size ≤ maxLen) (p3 : symB p = false) (hx : printF ⟨a, p, m⟩ = (⟨#[]⟩, 90)) :
    Calls Tryd.prog 33 #[.agg #[.int .i64 a, .string p, .string m]] w (PrintPost ⟨a, p, m⟩ w) := by
  have HX := Lib.hid hx
  clear hx
  have i0 : ∀ w, (Instr.index 92 (.agg #[.string p, .string m]) (.int .i64 0)).run Tryd.prog w = .ok (.string p) w := fun _ => by kernel_rfl
  have i1 : ∀ w, (Instr.index 92 (.agg #[.string p, .string m]) (.int .i64 1)).run Tryd.prog w = .ok (.string m) w := fun _ => by kernel_rfl
  go_enter Tryd.func33, Tryd.ntmps33
  go_wp2_with fail
  go_loop [12] (fun i => i = .int .i64 0) (fun i => 2 - (intOf i).toNat)
  case atStart => exact rfl
  case round =>
    obtain rfl := hrel
    go_wp2_with (first | (go_at_call 67; refine (isSym_any _ _ (by assumption)).mono ?_; rintro e w' ⟨rfl, rfl⟩) | (go_at_call 68; refine (plain_any _ _ _ _).mono ?_; rintro e w1 ⟨rfl, o3, rfl⟩))
    (go_ret2; exact PrintPost.mk HX.out (by ((repeat (first | with_reducible refine Below.drew ?_ | (with_reducible refine Below.alloc ?_ ?_ _; rotate_left; (focus (first | (simp; done) | (simp; omega) | omega))) | (with_reducible refine Below.setCell ?_ ?_ _; rotate_left; (focus (first | (simp; done) | (simp; omega) | omega))))); (first | with_reducible exact Below.refl _ _ | with_reducible assumption))))

set_option maxRecDepth 100000 in
set_option maxHeartbeats 1000000 in
theorem print_badM0 (a : Int) (m : ByteArray) (w : World) (m1 : ¬ m.toList = []) (m2 : m.toList.isEmpty = false) (m4 : m.size ≤ maxLen) (m3 : symB m = false) (hx : printF ⟨a, ⟨#[]⟩, m⟩ = (⟨#[]⟩, 90)) :
    Calls Tryd.prog 33 #[.agg #[.int .i64 a, .string ⟨#[]⟩, .string m]] w (PrintPost ⟨a, ⟨#[]⟩, m⟩ w) := by
  have HX := Lib.hid hx
  clear hx
  have i0 : ∀ w, (Instr.index 92 (.agg #[.string ⟨#[]⟩, .string m]) (.int .i64 0)).run Tryd.prog w = .ok (.string ⟨#[]⟩) w := fun _ => by kernel_rfl
  have i1 : ∀ w, (Instr.index 92 (.agg #[.string ⟨#[]⟩, .string m]) (.int .i64 1)).run Tryd.prog w = .ok (.string m) w := fun _ => by kernel_rfl
  go_enter Tryd.func33, Tryd.ntmps33
  go_wp2_with fail
  go_loop [12] (fun i => i = .int .i64 0 ∨ i = .int .i64 1) (fun i => 2 - (intOf i).toNat)
  case atStart => exact .inl rfl
  case round =>
    rcases hrel with rfl | rfl
    · go_wp2_with (first | (go_at_call 67; refine (isSym_any _ _ (by assumption)).mono ?_; rintro e w' ⟨rfl, rfl⟩))
      go_round
      case rel => exact .inr rfl
      case measure => simp [intOf]
    · go_wp2_with (first | (go_at_call 67; refine (isSym_any _ _ (by assumption)).mono ?_; rintro e w' ⟨rfl, rfl⟩) | (go_at_call 68; refine (plain_any _ _ _ _).mono ?_; rintro e w1 ⟨rfl, o3, rfl⟩))
      (go_ret2; exact PrintPost.mk HX.out (by ((repeat (first | with_reducible refine Below.drew ?_ | (with_reducible refine Below.alloc ?_ ?_ _; rotate_left; (focus (first | (simp; done) | (simp; omega) | omega))) | (with_reducible refine Below.setCell ?_ ?_ _; rotate_left; (focus (first | (simp; done) | (simp; omega) | omega))))); (first | with_reducible exact Below.refl _ _ | with_reducible assumption))))

set_option maxRecDepth 100000 in
set_option maxHeartbeats 1000000 in
theorem print_badM (a : Int) (p m : ByteArray) (w : World) (p1 : ¬ p.toList = []) (p2 : p.toList.isEmpty = false) (p4 : p.size ≤ maxLen) (p3 : symB p = true) (m1 : ¬ m.toList = []) (m2 : m.toList.isEmpty = false) (m4 : m.size ≤ maxLen) (m3 : symB m = false) (hx : printF ⟨a, p, m⟩ = (⟨#[]⟩, 90)) :
    Calls Tryd.prog 33 #[.agg #[.int .i64 a, .string p, .string m]] w (PrintPost ⟨a, p, m⟩ w) := by
  have HX := Lib.hid hx
  clear hx
  have i0 : ∀ w, (Instr.index 92 (.agg #[.string p, .string m]) (.int .i64 0)).run Tryd.prog w = .ok (.string p) w := fun _ => by kernel_rfl
  have i1 : ∀ w, (Instr.index 92 (.agg #[.string p, .string m]) (.int .i64 1)).run Tryd.prog w = .ok (.string m) w := fun _ => by kernel_rfl
  go_enter Tryd.func33, Tryd.ntmps33
  go_wp2_with fail
  go_loop [12] (fun i => i = .int .i64 0 ∨ i = .int .i64 1) (fun i => 2 - (intOf i).toNat)
  case atStart => exact .inl rfl
  case round =>
    rcases hrel with rfl | rfl
    · go_wp2_with (first | (go_at_call 67; refine (isSym_any _ _ (by assumption)).mono ?_; rintro e w' ⟨rfl, rfl⟩))
      go_round
      case rel => exact .inr rfl
      case measure => simp [intOf]
    · go_wp2_with (first | (go_at_call 67; refine (isSym_any _ _ (by assumption)).mono ?_; rintro e w' ⟨rfl, rfl⟩) | (go_at_call 68; refine (plain_any _ _ _ _).mono ?_; rintro e w1 ⟨rfl, o3, rfl⟩))
      (go_ret2; exact PrintPost.mk HX.out (by ((repeat (first | with_reducible refine Below.drew ?_ | (with_reducible refine Below.alloc ?_ ?_ _; rotate_left; (focus (first | (simp; done) | (simp; omega) | omega))) | (with_reducible refine Below.setCell ?_ ?_ _; rotate_left; (focus (first | (simp; done) | (simp; omega) | omega))))); (first | with_reducible exact Below.refl _ _ | with_reducible assumption))))

set_option maxRecDepth 100000 in
set_option maxHeartbeats 1000000 in
theorem print_same (a : Int) (p : ByteArray) (w : World) (p1 : ¬ p.toList = []) (p2 : p.toList.isEmpty = false) (p4 : p.size ≤ maxLen) (p3 : symB p = true) (hx : printF ⟨a, p, p⟩ = (⟨#[]⟩, 90)) :
    Calls Tryd.prog 33 #[.agg #[.int .i64 a, .string p, .string p]] w (PrintPost ⟨a, p, p⟩ w) := by
  have HX := Lib.hid hx
  clear hx
  have i0 : ∀ w, (Instr.index 92 (.agg #[.string p, .string p]) (.int .i64 0)).run Tryd.prog w = .ok (.string p) w := fun _ => by kernel_rfl
  have i1 : ∀ w, (Instr.index 92 (.agg #[.string p, .string p]) (.int .i64 1)).run Tryd.prog w = .ok (.string p) w := fun _ => by kernel_rfl
  go_enter Tryd.func33, Tryd.ntmps33
  go_wp2_with fail
  go_loop [12] (fun i => i = .int .i64 0 ∨ i = .int .i64 1 ∨ i = .int .i64 2) (fun i => 2 - (intOf i).toNat)
  case atStart => exact .inl rfl
  case round =>
    rcases hrel with rfl | rfl | rfl
    · go_wp2_with (first | (go_at_call 67; refine (isSym_any _ _ (by assumption)).mono ?_; rintro e w' ⟨rfl, rfl⟩))
      go_round
      case rel => exact .inr (.inl rfl)
      case measure => simp [intOf]
    · go_wp2_with (first | (go_at_call 67; refine (isSym_any _ _ (by assumption)).mono ?_; rintro e w' ⟨rfl, rfl⟩))
      go_round
      case rel => exact .inr (.inr rfl)
      case measure => simp [intOf]
    · go_wp2_with (first | (go_at_call 67; refine (isSym_any _ _ (by assumption)).mono ?_; rintro e w' ⟨rfl, rfl⟩) | (go_at_call 68; refine (plain_any _ _ _ _).mono ?_; rintro e w1 ⟨rfl, o3, rfl⟩))
      (go_ret2; exact PrintPost.mk HX.out (by ((repeat (first | with_reducible refine Below.drew ?_ | (with_reducible refine Below.alloc ?_ ?_ _; rotate_left; (focus (first | (simp; done) | (simp; omega) | omega))) | (with_reducible refine Below.setCell ?_ ?_ _; rotate_left; (focus (first | (simp; done) | (simp; omega) | omega))))); (first | with_reducible exact Below.refl _ _ | with_reducible assumption))))

set_option maxRecDepth 100000 in
set_option maxHeartbeats 1000000 in
theorem print_plain_neg (a : Int) (w : World) (ha : a < 0) (pl : plainB ⟨#[]⟩ ⟨#[]⟩ = true) (hs : ∀ W, Calls Tryd.prog 69 #[.int .i64 a] W fun e w' => e = .returned (.string (signS a)) ∧ Below W.heap.size W w') (hx : printF ⟨a, ⟨#[]⟩, ⟨#[]⟩⟩ = ((signS a), 0)) :
    Calls Tryd.prog 33 #[.agg #[.int .i64 a, .string ⟨#[]⟩, .string ⟨#[]⟩]] w (PrintPost ⟨a, ⟨#[]⟩, ⟨#[]⟩⟩ w) := by
  have HX := Lib.hid hx
  clear hx
  have HSS := Lib.hid hs
  clear hs
  have i0 : ∀ w, (Instr.index 92 (.agg #[.string ⟨#[]⟩, .string ⟨#[]⟩]) (.int .i64 0)).run Tryd.prog w = .ok (.string ⟨#[]⟩) w := fun _ => by kernel_rfl
  have i1 : ∀ w, (Instr.index 92 (.agg #[.string ⟨#[]⟩, .string ⟨#[]⟩]) (.int .i64 1)).run Tryd.prog w = .ok (.string ⟨#[]⟩) w := fun _ => by kernel_rfl
  go_enter Tryd.func33, Tryd.ntmps33
  go_wp2_with fail
  go_loop [12] (fun i => i = .int .i64 0 ∨ i = .int .i64 1 ∨ i = .int .i64 2) (fun i => 2 - (intOf i).toNat)
  case atStart => exact .inl rfl
  case round =>
    rcases hrel with rfl | rfl | rfl
    · go_wp2_with (first | (go_at_call 67; refine (isSym_any _ _ (by assumption)).mono ?_; rintro e w' ⟨rfl, rfl⟩))
      go_round
      case rel => exact .inr (.inl rfl)
      case measure => simp [intOf]
    · go_wp2_with (first | (go_at_call 67; refine (isSym_any _ _ (by assumption)).mono ?_; rintro e w' ⟨rfl, rfl⟩))
      go_round
      case rel => exact .inr (.inr rfl)
      case measure => simp [intOf]
    · go_wp2_with (first | (go_at_call 67; refine (isSym_any _ _ (by assumption)).mono ?_; rintro e w' ⟨rfl, rfl⟩) | (go_at_call 68; refine (plain_any _ _ _ _).mono ?_; rintro e w1 ⟨rfl, o3, rfl⟩) | (go_at_call 69; refine (HSS.out _).mono ?_; rintro e w2 ⟨rfl, hb2⟩; replace hb2 : Below w.heap.size w w2 := below_on hb2 (by ((repeat (first | with_reducible refine Below.drew ?_ | (with_reducible refine Below.alloc ?_ ?_ _; rotate_left; (focus (first | (simp; done) | (simp; omega) | omega))) | (with_reducible refine Below.setCell ?_ ?_ _; rotate_left; (focus (first | (simp; done) | (simp; omega) | omega))))); (first | with_reducible exact Below.refl _ _ | with_reducible assumption)))))
      (go_ret2; exact PrintPost.mk HX.out (by ((repeat (first | with_reducible refine Below.drew ?_ | (with_reducible refine Below.alloc ?_ ?_ _; rotate_left; (focus (first | (simp; done) | (simp; omega) | omega))) | (with_reducible refine Below.setCell ?_ ?_ _; rotate_left; (focus (first | (simp; done) | (simp; omega) | omega))))); (first | with_reducible exact Below.refl _ _ | with_reducible assumption))))

set_option maxRecDepth 100000 in
set_option maxHeartbeats 1000000 in
theorem print_plain_pos (a : Int) (w : World) (ha : 0 ≤ a) (pl : plainB ⟨#[]⟩ ⟨#[]⟩ = true) (hd : ∀ W, Calls Tryd.prog 70 #[.int .u64 (a.toNat : Int)] W fun e w' => e = .returned (.string (decS a.toNat)) ∧ Below W.heap.size W w') (hu : IntKind.u64.wrap a = ((a.toNat : Nat) : Int)) (hx : printF ⟨a, ⟨#[]⟩, ⟨#[]⟩⟩ = ((decS a.toNat), 0)) :
    Calls Tryd.prog 33 #[.agg #[.int .i64 a, .string ⟨#[]⟩, .string ⟨#[]⟩]] w (PrintPost ⟨a, ⟨#[]⟩, ⟨#[]⟩⟩ w) := by
  have HX := Lib.hid hx
  clear hx
  have HDD := Lib.hid hd
  have HU := Lib.hid hu
  clear hd hu
  have i0 : ∀ w, (Instr.index 92 (.agg #[.string ⟨#[]⟩, .string ⟨#[]⟩]) (.int .i64 0)).run Tryd.prog w = .ok (.string ⟨#[]⟩) w := fun _ => by kernel_rfl
  have i1 : ∀ w, (Instr.index 92 (.agg #[.string ⟨#[]⟩, .string ⟨#[]⟩]) (.int .i64 1)).run Tryd.prog w = .ok (.string ⟨#[]⟩) w := fun _ => by kernel_rfl
  go_enter Tryd.func33, Tryd.ntmps33
  go_wp2_with fail
  go_loop [12] (fun i => i = .int .i64 0 ∨ i = .int .i64 1 ∨ i = .int .i64 2) (fun i => 2 - (intOf i).toNat)
  case atStart => exact .inl rfl
  case round =>
    rcases hrel with rfl | rfl | rfl
    · go_wp2_with (first | (go_at_call 67; refine (isSym_any _ _ (by assumption)).mono ?_; rintro e w' ⟨rfl, rfl⟩))
      go_round
      case rel => exact .inr (.inl rfl)
      case measure => simp [intOf]
    · go_wp2_with (first | (go_at_call 67; refine (isSym_any _ _ (by assumption)).mono ?_; rintro e w' ⟨rfl, rfl⟩))
      go_round
      case rel => exact .inr (.inr rfl)
      case measure => simp [intOf]
    · go_wp2_with (first | (go_at_call 67; refine (isSym_any _ _ (by assumption)).mono ?_; rintro e w' ⟨rfl, rfl⟩) | (go_at_call 68; refine (plain_any _ _ _ _).mono ?_; rintro e w1 ⟨rfl, o3, rfl⟩) | (go_at_call 70; rw [HU.out]; refine (HDD.out _).mono ?_; rintro e w2 ⟨rfl, hb2⟩; replace hb2 : Below w.heap.size w w2 := below_on hb2 (by ((repeat (first | with_reducible refine Below.drew ?_ | (with_reducible refine Below.alloc ?_ ?_ _; rotate_left; (focus (first | (simp; done) | (simp; omega) | omega))) | (with_reducible refine Below.setCell ?_ ?_ _; rotate_left; (focus (first | (simp; done) | (simp; omega) | omega))))); (first | with_reducible exact Below.refl _ _ | with_reducible assumption)))))
      (go_ret2; exact PrintPost.mk HX.out (by ((repeat (first | with_reducible refine Below.drew ?_ | (with_reducible refine Below.alloc ?_ ?_ _; rotate_left; (focus (first | (simp; done) | (simp; omega) | omega))) | (with_reducible refine Below.setCell ?_ ?_ _; rotate_left; (focus (first | (simp; done) | (simp; omega) | omega))))); (first | with_reducible exact Below.refl _ _ | with_reducible assumption))))

set_option maxRecDepth 100000 in
set_option maxHeartbeats 1000000 in
theorem print_m_0 (m : ByteArray) (w : World) (m1 : ¬ m.toList = []) (m2 : m.toList.isEmpty = false) (m4 : m.size ≤ maxLen) (m3 : symB m = true) (m5 : m.size ≤ 512) (pl : plainB ⟨#[]⟩ m = false) (hx : printF ⟨0, ⟨#[]⟩, m⟩ = ((⟨#[48]⟩ ++ (⟨#[45]⟩ ++ m)), 0)) :
    Calls Tryd.prog 33 #[.agg #[.int .i64 0, .string ⟨#[]⟩, .string m]] w (PrintPost ⟨0, ⟨#[]⟩, m⟩ w) := by
  have HX := Lib.hid hx
  clear hx
  have i0 : ∀ w, (Instr.index 92 (.agg #[.string ⟨#[]⟩, .string m]) (.int .i64 0)).run Tryd.prog w = .ok (.string ⟨#[]⟩) w := fun _ => by kernel_rfl
  have i1 : ∀ w, (Instr.index 92 (.agg #[.string ⟨#[]⟩, .string m]) (.int .i64 1)).run Tryd.prog w = .ok (.string m) w := fun _ => by kernel_rfl
  go_enter Tryd.func33, Tryd.ntmps33
  go_wp2_with fail
  go_loop [12] (fun i => i = .int .i64 0 ∨ i = .int .i64 1 ∨ i = .int .i64 2) (fun i => 2 - (intOf i).toNat)
  case atStart => exact .inl rfl
  case round =>
    rcases hrel with rfl | rfl | rfl
    · go_wp2_with (first | (go_at_call 67; refine (isSym_any _ _ (by assumption)).mono ?_; rintro e w' ⟨rfl, rfl⟩))
      go_round
      case rel => exact .inr (.inl rfl)
      case measure => simp [intOf]
    · go_wp2_with (first | (go_at_call 67; refine (isSym_any _ _ (by assumption)).mono ?_; rintro e w' ⟨rfl, rfl⟩))
      go_round
      case rel => exact .inr (.inr rfl)
      case measure => simp [intOf]
    · go_wp2_with (first | (go_at_call 67; refine (isSym_any _ _ (by assumption)).mono ?_; rintro e w' ⟨rfl, rfl⟩) | (go_at_call 68; refine (plain_any _ _ _ _).mono ?_; rintro e w1 ⟨rfl, o3, rfl⟩))
      (go_ret2; exact PrintPost.mk HX.out (by ((repeat (first | with_reducible refine Below.drew ?_ | (with_reducible refine Below.alloc ?_ ?_ _; rotate_left; (focus (first | (simp; done) | (simp; omega) | omega))) | (with_reducible refine Below.setCell ?_ ?_ _; rotate_left; (focus (first | (simp; done) | (simp; omega) | omega))))); (first | with_reducible exact Below.refl _ _ | with_reducible assumption))))

set_option maxRecDepth 100000 in
set_option maxHeartbeats 1000000 in
theorem print_m_n (a : Int) (m : ByteArray) (w : World) (m1 : ¬ m.toList = []) (m2 : m.toList.isEmpty = false) (m4 : m.size ≤ maxLen) (m3 : symB m = true) (m5 : m.size ≤ 512) (pl : plainB ⟨#[]⟩ m = false) (ha : (a != 0) = true) (sz : (signS a).size ≤ 21) (hs : ∀ W, Calls Tryd.prog 69 #[.int .i64 a] W fun e w' => e = .returned (.string (signS a)) ∧ Below W.heap.size W w') (hx : printF ⟨a, ⟨#[]⟩, m⟩ = (((⟨#[48]⟩ ++ (⟨#[45]⟩ ++ m)) ++ signS a), 0)) :
    Calls Tryd.prog 33 #[.agg #[.int .i64 a, .string ⟨#[]⟩, .string m]] w (PrintPost ⟨a, ⟨#[]⟩, m⟩ w) := by
  have HX := Lib.hid hx
  clear hx
  have HSS := Lib.hid hs
  clear hs
  have i0 : ∀ w, (Instr.index 92 (.agg #[.string ⟨#[]⟩, .string m]) (.int .i64 0)).run Tryd.prog w = .ok (.string ⟨#[]⟩) w := fun _ => by kernel_rfl
  have i1 : ∀ w, (Instr.index 92 (.agg #[.string ⟨#[]⟩, .string m]) (.int .i64 1)).run Tryd.prog w = .ok (.string m) w := fun _ => by kernel_rfl
  go_enter Tryd.func33, Tryd.ntmps33
  go_wp2_with fail
  go_loop [12] (fun i => i = .int .i64 0 ∨ i = .int .i64 1 ∨ i = .int .i64 2) (fun i => 2 - (intOf i).toNat)
  case atStart => exact .inl rfl
  case round =>
    rcases hrel with rfl | rfl | rfl
    · go_wp2_with (first | (go_at_call 67; refine (isSym_any _ _ (by assumption)).mono ?_; rintro e w' ⟨rfl, rfl⟩))
      go_round
      case rel => exact .inr (.inl rfl)
      case measure => simp [intOf]
    · go_wp2_with (first | (go_at_call 67; refine (isSym_any _ _ (by assumption)).mono ?_; rintro e w' ⟨rfl, rfl⟩))
      go_round
      case rel => exact .inr (.inr rfl)
      case measure => simp [intOf]
    · go_wp2_with (first | (go_at_call 67; refine (isSym_any _ _ (by assumption)).mono ?_; rintro e w' ⟨rfl, rfl⟩) | (go_at_call 68; refine (plain_any _ _ _ _).mono ?_; rintro e w1 ⟨rfl, o3, rfl⟩) | (go_at_call 69; refine (HSS.out _).mono ?_; rintro e w2 ⟨rfl, hb2⟩; replace hb2 : Below w.heap.size w w2 := below_on hb2 (by ((repeat (first | with_reducible refine Below.drew ?_ | (with_reducible refine Below.alloc ?_ ?_ _; rotate_left; (focus (first | (simp; done) | (simp; omega) | omega))) | (with_reducible refine Below.setCell ?_ ?_ _; rotate_left; (focus (first | (simp; done) | (simp; omega) | omega))))); (first | with_reducible exact Below.refl _ _ | with_reducible assumption)))))
      (go_ret2; exact PrintPost.mk HX.out (by ((repeat (first | with_reducible refine Below.drew ?_ | (with_reducible refine Below.alloc ?_ ?_ _; rotate_left; (focus (first | (simp; done) | (simp; omega) | omega))) | (with_reducible refine Below.setCell ?_ ?_ _; rotate_left; (focus (first | (simp; done) | (simp; omega) | omega))))); (first | with_reducible exact Below.refl _ _ | with_reducible assumption))))

set_option maxRecDepth 100000 in
set_option maxHeartbeats 1000000 in
theorem print_p_0 (p : ByteArray) (w : World) (p1 : ¬ p.toList = []) (p2 : p.toList.isEmpty = false) (p4 : p.size ≤ maxLen) (p3 : symB p = true) (p5 : p.size ≤ 512) (pl : plainB p ⟨#[]⟩ = false) (hx : printF ⟨0, p, ⟨#[]⟩⟩ = (p, 0)) :
    Calls Tryd.prog 33 #[.agg #[.int .i64 0, .string p, .string ⟨#[]⟩]] w (PrintPost ⟨0, p, ⟨#[]⟩⟩ w) := by
  have HX := Lib.hid hx
  clear hx
  have i0 : ∀ w, (Instr.index 92 (.agg #[.string p, .string ⟨#[]⟩]) (.int .i64 0)).run Tryd.prog w = .ok (.string p) w := fun _ => by kernel_rfl
  have i1 : ∀ w, (Instr.index 92 (.agg #[.string p, .string ⟨#[]⟩]) (.int .i64 1)).run Tryd.prog w = .ok (.string ⟨#[]⟩) w := fun _ => by kernel_rfl
  go_enter Tryd.func33, Tryd.ntmps33
  go_wp2_with fail
  go_loop [12] (fun i => i = .int .i64 0 ∨ i = .int .i64 1 ∨ i = .int .i64 2) (fun i => 2 - (intOf i).toNat)
  case atStart => exact .inl rfl
  case round =>
    rcases hrel with rfl | rfl | rfl
    · go_wp2_with (first | (go_at_call 67; refine (isSym_any _ _ (by assumption)).mono ?_; rintro e w' ⟨rfl, rfl⟩))
      go_round
      case rel => exact .inr (.inl rfl)
      case measure => simp [intOf]
    · go_wp2_with (first | (go_at_call 67; refine (isSym_any _ _ (by assumption)).mono ?_; rintro e w' ⟨rfl, rfl⟩))
      go_round
      case rel => exact .inr (.inr rfl)
      case measure => simp [intOf]
    · go_wp2_with (first | (go_at_call 67; refine (isSym_any _ _ (by assumption)).mono ?_; rintro e w' ⟨rfl, rfl⟩) | (go_at_call 68; refine (plain_any _ _ _ _).mono ?_; rintro e w1 ⟨rfl, o3, rfl⟩))
      (go_ret2; exact PrintPost.mk HX.out (by ((repeat (first | with_reducible refine Below.drew ?_ | (with_reducible refine Below.alloc ?_ ?_ _; rotate_left; (focus (first | (simp; done) | (simp; omega) | omega))) | (with_reducible refine Below.setCell ?_ ?_ _; rotate_left; (focus (first | (simp; done) | (simp; omega) | omega))))); (first | with_reducible exact Below.refl _ _ | with_reducible assumption))))

set_option maxRecDepth 100000 in
set_option maxHeartbeats 1000000 in
theorem print_p_n (a : Int) (p : ByteArray) (w : World) (p1 : ¬ p.toList = []) (p2 : p.toList.isEmpty = false) (p4 : p.size ≤ maxLen) (p3 : symB p = true) (p5 : p.size ≤ 512) (pl : plainB p ⟨#[]⟩ = false) (ha : (a != 0) = true) (sz : (signS a).size ≤ 21) (hs : ∀ W, Calls Tryd.prog 69 #[.int .i64 a] W fun e w' => e = .returned (.string (signS a)) ∧ Below W.heap.size W w') (hx : printF ⟨a, p, ⟨#[]⟩⟩ = ((p ++ signS a), 0)) :
    Calls Tryd.prog 33 #[.agg #[.int .i64 a, .string p, .string ⟨#[]⟩]] w (PrintPost ⟨a, p, ⟨#[]⟩⟩ w) := by
  have HX := Lib.hid hx
  clear hx
  have HSS := Lib.hid hs
  clear hs
  have i0 : ∀ w, (Instr.index 92 (.agg #[.string p, .string ⟨#[]⟩]) (.int .i64 0)).run Tryd.prog w = .ok (.string p) w := fun _ => by kernel_rfl
  have i1 : ∀ w, (Instr.index 92 (.agg #[.string p, .string ⟨#[]⟩]) (.int .i64 1)).run Tryd.prog w = .ok (.string ⟨#[]⟩) w := fun _ => by kernel_rfl
  go_enter Tryd.func33, Tryd.ntmps33
  go_wp2_with fail
  go_loop [12] (fun i => i = .int .i64 0 ∨ i = .int .i64 1 ∨ i = .int .i64 2) (fun i => 2 - (intOf i).toNat)
  case atStart => exact .inl rfl
  case round =>
    rcases hrel with rfl | rfl | rfl
    · go_wp2_with (first | (go_at_call 67; refine (isSym_any _ _ (by assumption)).mono ?_; rintro e w' ⟨rfl, rfl⟩))
      go_round
      case rel => exact .inr (.inl rfl)
      case measure => simp [intOf]
    · go_wp2_with (first | (go_at_call 67; refine (isSym_any _ _ (by assumption)).mono ?_; rintro e w' ⟨rfl, rfl⟩))
      go_round
      case rel => exact .inr (.inr rfl)
      case measure => simp [intOf]
    · go_wp2_with (first | (go_at_call 67; refine (isSym_any _ _ (by assumption)).mono ?_; rintro e w' ⟨rfl, rfl⟩) | (go_at_call 68; refine (plain_any _ _ _ _).mono ?_; rintro e w1 ⟨rfl, o3, rfl⟩) | (go_at_call 69; refine (HSS.out _).mono ?_; rintro e w2 ⟨rfl, hb2⟩; replace hb2 : Below w.heap.size w w2 := below_on hb2 (by ((repeat (first | with_reducible refine Below.drew ?_ | (with_reducible refine Below.alloc ?_ ?_ _; rotate_left; (focus (first | (simp; done) | (simp; omega) | omega))) | (with_reducible refine Below.setCell ?_ ?_ _; rotate_left; (focus (first | (simp; done) | (simp; omega) | omega))))); (first | with_reducible exact Below.refl _ _ | with_reducible assumption)))))
      (go_ret2; exact PrintPost.mk HX.out (by ((repeat (first | with_reducible refine Below.drew ?_ | (with_reducible refine Below.alloc ?_ ?_ _; rotate_left; (focus (first | (simp; done) | (simp; omega) | omega))) | (with_reducible refine Below.setCell ?_ ?_ _; rotate_left; (focus (first | (simp; done) | (simp; omega) | omega))))); (first | with_reducible exact Below.refl _ _ | with_reducible assumption))))

set_option maxRecDepth 100000 in
set_option maxHeartbeats 1000000 in
theorem print_pm_0 (p m : ByteArray) (w : World) (p1 : ¬ p.toList = []) (p2 : p.toList.isEmpty = false) (p4 : p.size ≤ maxLen) (p3 : symB p = true) (m1 : ¬ m.toList = []) (m2 : m.toList.isEmpty = false) (m4 : m.size ≤ maxLen) (m3 : symB m = true) (m5 : m.size ≤ 512) (p5 : p.size ≤ 512) (pl : plainB p m = false) (ne : (p.toList == m.toList) = false) (hx : printF ⟨0, p, m⟩ = ((p ++ (⟨#[45]⟩ ++ m)), 0)) :
    Calls Tryd.prog 33 #[.agg #[.int .i64 0, .string p, .string m]] w (PrintPost ⟨0, p, m⟩ w) := by
  have HX := Lib.hid hx
  clear hx
  have i0 : ∀ w, (Instr.index 92 (.agg #[.string p, .string m]) (.int .i64 0)).run Tryd.prog w = .ok (.string p) w := fun _ => by kernel_rfl
  have i1 : ∀ w, (Instr.index 92 (.agg #[.string p, .string m]) (.int .i64 1)).run Tryd.prog w = .ok (.string m) w := fun _ => by kernel_rfl
  go_enter Tryd.func33, Tryd.ntmps33
  go_wp2_with fail
  go_loop [12] (fun i => i = .int .i64 0 ∨ i = .int .i64 1 ∨ i = .int .i64 2) (fun i => 2 - (intOf i).toNat)
  case atStart => exact .inl rfl
  case round =>
    rcases hrel with rfl | rfl | rfl
    · go_wp2_with (first | (go_at_call 67; refine (isSym_any _ _ (by assumption)).mono ?_; rintro e w' ⟨rfl, rfl⟩))
      go_round
      case rel => exact .inr (.inl rfl)
      case measure => simp [intOf]
    · go_wp2_with (first | (go_at_call 67; refine (isSym_any _ _ (by assumption)).mono ?_; rintro e w' ⟨rfl, rfl⟩))
      go_round
      case rel => exact .inr (.inr rfl)
      case measure => simp [intOf]
    · go_wp2_with (first | (go_at_call 67; refine (isSym_any _ _ (by assumption)).mono ?_; rintro e w' ⟨rfl, rfl⟩) | (go_at_call 68; refine (plain_any _ _ _ _).mono ?_; rintro e w1 ⟨rfl, o3, rfl⟩))
      (go_ret2; exact PrintPost.mk HX.out (by ((repeat (first | with_reducible refine Below.drew ?_ | (with_reducible refine Below.alloc ?_ ?_ _; rotate_left; (focus (first | (simp; done) | (simp; omega) | omega))) | (with_reducible refine Below.setCell ?_ ?_ _; rotate_left; (focus (first | (simp; done) | (simp; omega) | omega))))); (first | with_reducible exact Below.refl _ _ | with_reducible assumption))))

set_option maxRecDepth 100000 in
set_option maxHeartbeats 1000000 in
theorem print_pm_n (a : Int) (p m : ByteArray) (w : World) (p1 : ¬ p.toList = []) (p2 : p.toList.isEmpty = false) (p4 : p.size ≤ maxLen) (p3 : symB p = true) (m1 : ¬ m.toList = []) (m2 : m.toList.isEmpty = false) (m4 : m.size ≤ maxLen) (m3 : symB m = true) (m5 : m.size ≤ 512) (p5 : p.size ≤ 512) (pl : plainB p m = false) (ne : (p.toList == m.toList) = false) (ha : (a != 0) = true) (sz : (signS a).size ≤ 21) (hs : ∀ W, Calls Tryd.prog 69 #[.int .i64 a] W fun e w' => e = .returned (.string (signS a)) ∧ Below W.heap.size W w') (hx : printF ⟨a, p, m⟩ = (((p ++ (⟨#[45]⟩ ++ m)) ++ signS a), 0)) :
    Calls Tryd.prog 33 #[.agg #[.int .i64 a, .string p, .string m]] w (PrintPost ⟨a, p, m⟩ w) := by
  have HX := Lib.hid hx
  clear hx
  have HSS := Lib.hid hs
  clear hs
  have i0 : ∀ w, (Instr.index 92 (.agg #[.string p, .string m]) (.int .i64 0)).run Tryd.prog w = .ok (.string p) w := fun _ => by kernel_rfl
  have i1 : ∀ w, (Instr.index 92 (.agg #[.string p, .string m]) (.int .i64 1)).run Tryd.prog w = .ok (.string m) w := fun _ => by kernel_rfl
  go_enter Tryd.func33, Tryd.ntmps33
  go_wp2_with fail
  go_loop [12] (fun i => i = .int .i64 0 ∨ i = .int .i64 1 ∨ i = .int .i64 2) (fun i => 2 - (intOf i).toNat)
  case atStart => exact .inl rfl
  case round =>
    rcases hrel with rfl | rfl | rfl
    · go_wp2_with (first | (go_at_call 67; refine (isSym_any _ _ (by assumption)).mono ?_; rintro e w' ⟨rfl, rfl⟩))
      go_round
      case rel => exact .inr (.inl rfl)
      case measure => simp [intOf]
    · go_wp2_with (first | (go_at_call 67; refine (isSym_any _ _ (by assumption)).mono ?_; rintro e w' ⟨rfl, rfl⟩))
      go_round
      case rel => exact .inr (.inr rfl)
      case measure => simp [intOf]
    · go_wp2_with (first | (go_at_call 67; refine (isSym_any _ _ (by assumption)).mono ?_; rintro e w' ⟨rfl, rfl⟩) | (go_at_call 68; refine (plain_any _ _ _ _).mono ?_; rintro e w1 ⟨rfl, o3, rfl⟩) | (go_at_call 69; refine (HSS.out _).mono ?_; rintro e w2 ⟨rfl, hb2⟩; replace hb2 : Below w.heap.size w w2 := below_on hb2 (by ((repeat (first | with_reducible refine Below.drew ?_ | (with_reducible refine Below.alloc ?_ ?_ _; rotate_left; (focus (first | (simp; done) | (simp; omega) | omega))) | (with_reducible refine Below.setCell ?_ ?_ _; rotate_left; (focus (first | (simp; done) | (simp; omega) | omega))))); (first | with_reducible exact Below.refl _ _ | with_reducible assumption)))))
      (go_ret2; exact PrintPost.mk HX.out (by ((repeat (first | with_reducible refine Below.drew ?_ | (with_reducible refine Below.alloc ?_ ?_ _; rotate_left; (focus (first | (simp; done) | (simp; omega) | omega))) | (with_reducible refine Below.setCell ?_ ?_ _; rotate_left; (focus (first | (simp; done) | (simp; omega) | omega))))); (first | with_reducible exact Below.refl _ _ | with_reducible assumption))))

theorem signed_any (n : Int) (w : World) (hl : -9223372036854775808 ≤ n) (hu : n ≤ 9223372036854775807) :
    Calls Tryd.prog 69 #[.int .i64 n] w fun e w' => e = .returned (.string (signS n)) ∧ Below w.heap.size w w' := by
  by_cases h : n < 0
  · have e : signS n = ⟨#[45]⟩ ++ decS (-n).toNat := by rw [signS, if_pos h]
    rw [e]; exact signed_neg n w h hl
  · have e : signS n = ⟨#[43]⟩ ++ decS n.toNat := by rw [signS, if_neg h]
    rw [e]; exact signed_pos n w (by omega) hu

theorem print_any (a : Int) (p m : ByteArray) (w : World) (hp : p.size ≤ maxLen) (hm : m.size ≤ maxLen) (hl : -9223372036854775808 ≤ a) (hu : a ≤ 9223372036854775807) :
    Calls Tryd.prog 33 #[.agg #[.int .i64 a, .string p, .string m]] w (PrintPost ⟨a, p, m⟩ w) := by
  have hs := fun W => signed_any a W hl hu
  have hz := signS_size a
  by_cases hp0 : p = emp
  · subst hp0
    by_cases hm0 : m = emp
    · subst hm0
      by_cases ha : a < 0
      · exact print_plain_neg a w ha rfl hs (by simp [printF, lit_emp, ha])
      · exact print_plain_pos a w (by omega) rfl (fun W => decimal_any _ W (by omega)) (u64_pos (by omega) hu) (by simp [printF, lit_emp, ha])
    · have m1 := mt ba_emp.1 hm0
      have m2 : m.toList.isEmpty = false := by simpa using m1
      cases m3 : symB m with
      | false => exact print_badM0 a m w m1 m2 hm m3 (by simp [printF, lit_emp, hm0, m3]; try rfl)
      | true =>
        have m5 := symB_size m3
        have pl : plainB ⟨#[]⟩ m = false := by simp [plainB, lit_emp, hm0]
        by_cases ha : a = 0
        · subst ha; exact print_m_0 m w m1 m2 hm m3 m5 pl (by simp [printF, lit_emp, hm0, m3, emp_ne hm0])
        · exact print_m_n a m w m1 m2 hm m3 m5 pl (by simpa using ha) hz hs (by simp [printF, lit_emp, hm0, m3, ha, emp_ne hm0])
  · have p1 := mt ba_emp.1 hp0
    have p2 : p.toList.isEmpty = false := by simpa using p1
    cases p3 : symB p with
    | false => exact print_badP a p m w p1 p2 hp p3 (by simp [printF, lit_emp, hp0, p3]; try rfl)
    | true =>
      have p5 := symB_size p3
      by_cases hm0 : m = emp
      · subst hm0
        have pl : plainB p ⟨#[]⟩ = false := by simp [plainB, hp0]
        by_cases ha : a = 0
        · subst ha; exact print_p_0 p w p1 p2 hp p3 p5 pl (by simp [printF, lit_emp, hp0, p3])
        · exact print_p_n a p w p1 p2 hp p3 p5 pl (by simpa using ha) hz hs (by simp [printF, lit_emp, hp0, p3, ha])
      · have m1 := mt ba_emp.1 hm0
        have m2 : m.toList.isEmpty = false := by simpa using m1
        cases m3 : symB m with
        | false => exact print_badM a p m w p1 p2 hp p3 m1 m2 hm m3 (by simp [printF, lit_emp, hm0, m3]; try rfl)
        | true =>
          have m5 := symB_size m3
          by_cases e : p = m
          · subst e; exact print_same a p w p1 p2 hp p3 (by simp [printF, lit_emp, hp0, p3]; try rfl)
          · have ne : (p.toList == m.toList) = false := by simpa [ba_iff] using e
            have pl : plainB p m = false := by simp [plainB, hp0]
            by_cases ha : a = 0
            · subst ha; exact print_pm_0 p m w p1 p2 hp p3 m1 m2 hm m3 m5 p5 pl ne (by simp [printF, lit_emp, hp0, hm0, p3, m3, e])
            · exact print_pm_n a p m w p1 p2 hp p3 m1 m2 hm m3 m5 p5 pl ne (by simpa using ha) hz hs (by simp [printF, lit_emp, hp0, hm0, p3, m3, e, ha])

end Go.Proofs.YtcdbldakjepjiaaDoor.Ex

/-! ## Ei -/
namespace Go.Proofs.YtcdbldakjepjiaaDoor.Ex
open Go.RowKit
attribute [local go_sem ↓] Go.wp_at_zero Go.wp_at_succ

theorem SL.new (w : World) (cs : Array Value) (t : TypeId) {n sz : Nat} (h : cs.toList.length = n * sz) : SL (w.alloc (.cells cs t)) (w.alloc (.cells cs t)).heap.size sz (some ⟨w.heap.size, 0, none⟩) n cs.toList := by
  refine ⟨h, fun _ => ⟨w.heap.size, 0, rfl, by simp, fun j u hu => ?_⟩⟩
  rw [Nat.zero_add, cell_of_row _ _ _ _ _ _ (heap_alloc_new w (.cells cs t))]
  simpa using hu

def liveT : List Term := [⟨2, 0, ⟨#[97]⟩⟩, ⟨1, 2, ⟨#[]⟩⟩, ⟨1, 3, ⟨#[]⟩⟩, ⟨5, 0, ⟨#[]⟩⟩, ⟨8, 0, ⟨#[]⟩⟩, ⟨2, 0, ⟨#[98]⟩⟩, ⟨9, 0, ⟨#[]⟩⟩]

theorem live_eval : evalAll liveT = (⟨6, ⟨#[97]⟩, ⟨#[98]⟩⟩, 0) := by kernel_rfl
theorem live_print : printF ⟨6, ⟨#[97]⟩, ⟨#[98]⟩⟩ = (⟨#[97, 45, 98, 43, 54]⟩, 0) := by kernel_rfl

set_option maxRecDepth 100000 in
set_option maxHeartbeats 1000000 in
theorem live_any (w : World) : Calls Tryd.prog 32 #[] w fun e w' => e = .returned (.bool true) ∧ Below w.heap.size w w' := by
  have HEV := Lib.hid (fun (W : World) (b : Nat) (hT : Terms W W.heap.size (some ⟨b, 0, none⟩) liveT) => (eval_any (some ⟨b, 0, none⟩) 7 liveT W hT (by decide) (by decide) : Calls Tryd.prog 35 #[.slice (some ⟨b, 0, none⟩) 7 7] W (EvalPost liveT W)))
  go_enter Tryd.func32, Tryd.ntmps32
  go_wp2_with fail
  refine (HEV.out _ _ (SL.new w _ _ rfl)).mono ?_
  intro e w1 h1
  obtain ⟨r, x, hr, rfl, hb1⟩ := h1
  rw [live_eval] at hr
  injection hr with h1 h2
  subst h1
  subst h2
  replace hb1 : Below w.heap.size w w1 := below_on hb1 (by ((repeat (first | with_reducible refine Below.drew ?_ | (with_reducible refine Below.alloc ?_ ?_ _; rotate_left; (focus (first | (simp; done) | (simp; omega) | omega))) | (with_reducible refine Below.setCell ?_ ?_ _; rotate_left; (focus (first | (simp; done) | (simp; omega) | omega))))); (first | with_reducible exact Below.refl _ _ | with_reducible assumption)))
  go_wp2_with fail
  refine (print_any _ _ _ _ (by decide) (by decide) (by decide) (by decide)).mono ?_
  intro e w2 h2
  obtain ⟨s, x, hr, rfl, hb2⟩ := h2
  rw [live_print] at hr
  injection hr with h1 h2
  subst h1
  subst h2
  obtain ⟨k1, _⟩ := bat hb2 (b := w1.heap.size) (by simp)
  have hs1 := hb1.size
  replace hb2 : Below w.heap.size w w2 := below_on hb2 (by ((repeat (first | with_reducible refine Below.drew ?_ | (with_reducible refine Below.alloc ?_ ?_ _; rotate_left; (focus (first | (simp; done) | (simp; omega) | omega))) | (with_reducible refine Below.setCell ?_ ?_ _; rotate_left; (focus (first | (simp; done) | (simp; omega) | omega))))); (first | with_reducible exact Below.refl _ _ | with_reducible assumption)))
  have l0 : w2.cell? ⟨w1.heap.size, 0, none⟩ = some (.int .i64 6) := by rw [k1]; simp [go_sem]
  have l1 : w2.cell? ⟨w1.heap.size, 1, none⟩ = some (.string ⟨#[97]⟩) := by rw [k1]; simp [go_sem]
  have l2 : w2.cell? ⟨w1.heap.size, 2, none⟩ = some (.string ⟨#[98]⟩) := by rw [k1]; simp [go_sem]
  clear k1
  go_wp2_with fail
  go_ret
  exact ⟨rfl, (by ((repeat (first | with_reducible refine Below.drew ?_ | (with_reducible refine Below.alloc ?_ ?_ _; rotate_left; (focus (first | (simp; done) | (simp; omega) | omega))) | (with_reducible refine Below.setCell ?_ ?_ _; rotate_left; (focus (first | (simp; done) | (simp; omega) | omega))))); (first | with_reducible exact Below.refl _ _ | with_reducible assumption)))⟩

end Go.Proofs.YtcdbldakjepjiaaDoor.Ex
