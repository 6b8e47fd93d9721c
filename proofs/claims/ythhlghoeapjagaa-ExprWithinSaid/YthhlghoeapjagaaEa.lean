/- Contracts of the small functions of package expr and of its reference: each returns what its plain Lean twin computes; no cell that stood before the call is changed. -/
import Derived.Test.YthhlghoeapjagaaChecked
import Derived.Test.YthhlghoeapjagaaLib
import Derived.Test.YthhlghoeapjagaaPlain
import Derived.WalkKit
import Derived.WalkSpells
import Derived.WalkLawsBesides
import Derived.Lib.Hide
import Derived.Deep.RegionHeld3
import Derived.Deep.DrawnRows
import Derived.Deep.RegionWith
import Derived.Deep.DeepCutAuto
set_option linter.unusedVariables false
set_option linter.unusedSimpArgs false
namespace Go.Proofs.Ythhlghoeapjagaa
open Go.RowKit
attribute [local go_sem ↓] Go.wp_at_zero Go.wp_at_succ

set_option maxHeartbeats 400000 in
theorem neg_any (a : Int) (p m : ByteArray) (w : World) :
    Calls Try.prog 12 #[.agg #[.int .i64 a, .string p, .string m]] w fun e w' => e = .returned (.agg #[.int .i64 (wrap64 (-a)), .string m, .string p]) ∧ ∃ o1 o2, w' = (w.alloc o1).alloc o2 := by
  go_enter Try.func12, Try.ntmps12
  go_wp2
  exact bodyPost_ret (v := .agg #[.int .i64 (wrap64 (-a)), .string m, .string p]) (by simp [results, Try.results12, go_sem]) rfl ⟨rfl, _, _, rfl⟩

set_option maxHeartbeats 400000 in
theorem clear_any (a : Int) (p m : ByteArray) (w : World) :
    Calls Try.prog 28 #[.agg #[.int .i64 a, .string p, .string m]] w fun e w' => ∃ r o1 o2, Hid (clearF ⟨a, p, m⟩ = r) ∧ e = .returned (.agg #[.int .i64 r.add, .string r.plus, .string r.minus]) ∧ w' = (w.alloc o1).alloc o2 := by
  by_cases h : p = m
  · subst h
    go_enter Try.func28, Try.ntmps28
    go_wp2
    exact bodyPost_ret (v := .agg #[.int .i64 a, .string emp, .string emp]) (by simp [results, Try.results28, go_sem, emp]) rfl ⟨⟨a, emp, emp⟩, _, _, show clearF _ = _ by simp [clearF], rfl, rfl⟩
  · have h' : (p.toList == m.toList) = false := by simpa [ba_iff] using h
    go_enter Try.func28, Try.ntmps28
    go_wp2
    exact bodyPost_ret (v := .agg #[.int .i64 a, .string p, .string m]) (by simp [results, Try.results28, go_sem]) rfl ⟨⟨a, p, m⟩, _, _, show clearF _ = _ by simp [clearF, h], rfl, rfl⟩

set_option maxHeartbeats 400000 in
theorem meet_same (b1 o1 b2 o2 : Nat) (s t : ByteArray) (w : World) (hs : w.cell? ⟨b1, o1, none⟩ = some (.string s)) (ht : w.cell? ⟨b2, o2, none⟩ = some (.string t)) (fs : w.frozen? ⟨b1, o1, none⟩ = false) (ft : w.frozen? ⟨b2, o2, none⟩ = false) (hne : ¬ b1 = b2) (h : (s.toList == t.toList) = true) :
    Calls Try.prog 29 #[.pointer (some ⟨b1, o1, none⟩), .pointer (some ⟨b2, o2, none⟩)] w fun e w' => e = .returned (.tuple #[]) ∧ w' = ((w.setCell ⟨b1, o1, none⟩ (.string ⟨#[]⟩)).setCell ⟨b2, o2, none⟩ (.string ⟨#[]⟩)).drew := by
  go_enter Try.func29, Try.ntmps29
  go_wp2
  go_region
  all_goals go_wp2
  all_goals (go_end0; exact ⟨rfl, rfl⟩)

set_option maxHeartbeats 400000 in
theorem meet_other (b1 o1 b2 o2 : Nat) (s t : ByteArray) (w : World) (hs : w.cell? ⟨b1, o1, none⟩ = some (.string s)) (ht : w.cell? ⟨b2, o2, none⟩ = some (.string t)) (h : (s.toList == t.toList) = false) :
    Calls Try.prog 29 #[.pointer (some ⟨b1, o1, none⟩), .pointer (some ⟨b2, o2, none⟩)] w fun e w' => e = .returned (.tuple #[]) ∧ w' = w.drew := by
  go_enter Try.func29, Try.ntmps29
  go_wp2
  go_region
  all_goals go_wp2
  all_goals (go_end0; exact ⟨rfl, rfl⟩)

theorem meet_any (b1 o1 b2 o2 : Nat) (s t : ByteArray) (w : World) (hs : w.cell? ⟨b1, o1, none⟩ = some (.string s)) (ht : w.cell? ⟨b2, o2, none⟩ = some (.string t)) (fs : w.frozen? ⟨b1, o1, none⟩ = false) (ft : w.frozen? ⟨b2, o2, none⟩ = false) (hne : ¬ b1 = b2) :
    Calls Try.prog 29 #[.pointer (some ⟨b1, o1, none⟩), .pointer (some ⟨b2, o2, none⟩)] w fun e w' => ∃ s' t', Hid (meetF s t = (s', t')) ∧ e = .returned (.tuple #[]) ∧ w' = ((w.setCell ⟨b1, o1, none⟩ (.string s')).setCell ⟨b2, o2, none⟩ (.string t')).drew := by
  by_cases h : s = t
  · refine (meet_same b1 o1 b2 o2 s t w hs ht fs ft hne (by simp [h])).mono ?_
    rintro e w' ⟨rfl, rfl⟩
    exact ⟨_, _, show meetF _ _ = (emp, emp) by simp [meetF, h], rfl, rfl⟩
  · refine (meet_other b1 o1 b2 o2 s t w hs ht (by simpa [ba_iff] using h)).mono ?_
    rintro e w' ⟨rfl, rfl⟩
    refine ⟨s, t, show meetF _ _ = _ by simp [meetF, h], rfl, ?_⟩
    rw [setCell_self hs, setCell_self ht]

def AddPost (A B : Val) (w : World) (e : Ending) (w' : World) : Prop :=
  ∃ r x o1 o2 o3 o4 o5 o6 o7, addF A B = (r, x) ∧ e = .returned (.tuple #[.agg #[.int .i64 r.add, .string r.plus, .string r.minus], .int .i64 x]) ∧ w' = (((((((w.alloc o1).alloc o2).alloc o3).alloc o4).alloc o5).alloc o6).alloc o7).drew.drew.drew

theorem AddPost.mk {A B : Val} {w : World} {a : Int} {p m : ByteArray} {x : Int} {o1 o2 o3 o4 o5 o6 o7 : Obj} (h : addF A B = (⟨a, p, m⟩, x)) :
    AddPost A B w (.returned (.tuple #[.agg #[.int .i64 a, .string p, .string m], .int .i64 x])) (((((((w.alloc o1).alloc o2).alloc o3).alloc o4).alloc o5).alloc o6).alloc o7).drew.drew.drew := ⟨_, _, _, _, _, _, _, _, _, h, rfl, rfl⟩

set_option maxHeartbeats 2000000 in
theorem add_any (a : Int) (p m : ByteArray) (b : Int) (q n : ByteArray) (w : World) (hp : p.size ≤ 140737488355328) (hm : m.size ≤ 140737488355328) (hq : q.size ≤ 140737488355328) (hn : n.size ≤ 140737488355328) :
    Calls Try.prog 8 #[.agg #[.int .i64 a, .string p, .string m], .agg #[.int .i64 b, .string q, .string n]] w (AddPost ⟨a, p, m⟩ ⟨b, q, n⟩ w) := by
  go_enter Try.func8, Try.ntmps8
  go_upto_region 1 with fail
  go_cut [] (fun wx => ∃ r1 r2 o1 o2 o3 o4, Hid (clearF ⟨a, p, m⟩ = r1) ∧ Hid (clearF ⟨b, q, n⟩ = r2) ∧ wx = (((((((w.alloc (.cells #[.int .i64 r1.add, .string r1.plus, .string r1.minus] 23)).alloc (.cells #[.int .i64 r2.add, .string r2.plus, .string r2.minus] 23)).alloc (.cells #[.int .i64 0, .string ⟨#[]⟩, .string ⟨#[]⟩] 23)).alloc o1).alloc o2).alloc o3).alloc o4).drew)
  case first =>
    go_region_with (first | (go_at_call_of 28 a; refine (clear_any _ _ _ _).mono ?_; rintro e w1 ⟨r1, o1, o2, hr1, rfl, rfl⟩) | (go_at_call_of 28 b; refine (clear_any _ _ _ _).mono ?_; rintro e w1 ⟨r2, o3, o4, hr2, rfl, rfl⟩))
    all_goals (go_wp2_with fail; go_meet; exact ⟨r1, r2, o1, o2, o3, o4, hr1, hr2, rfl⟩)
  case rest =>
    obtain ⟨r1, r2, o1, o2, o3, o4, hr1, hr2, rfl⟩ := hcut
    obtain ⟨s1, s2⟩ := clearF_size hr1.out hp hm
    obtain ⟨s3, s4⟩ := clearF_size hr2.out hq hn
    clear hp hm hq hn
    go_wp2_with fail
    refine (meet_any _ _ _ _ _ _ _ (by simp [go_sem]; rfl) (by simp [go_sem]; rfl) (by simp [go_sem]) (by simp [go_sem]) (by simp)).mono ?_
    rintro e w1 ⟨p1, m2, h1, rfl, rfl⟩
    go_wp2_with fail
    refine (meet_any _ _ _ _ _ _ _ (by simp [go_sem]; rfl) (by simp [go_sem]; rfl) (by simp [go_sem]) (by simp [go_sem]) (by simp)).mono ?_
    rintro e w1 ⟨m1, p2, h2, rfl, rfl⟩
    obtain ⟨s5, s6⟩ := meetF_size h1.out s1 s4
    obtain ⟨s7, s8⟩ := meetF_size h2.out s2 s3
    clear s1 s2 s3 s4
    go_wp2
    all_goals first
      | (refine bodyPost_ret (v := .tuple #[.agg #[.int .i64 0, .string ⟨#[]⟩, .string ⟨#[]⟩], .int .i64 91]) ?_ rfl (AddPost.mk (addF_bad hr1.out hr2.out h1.out h2.out ?_))
         · simp [results, Try.results8, go_sem]; done
         · simp_all; done)
      | (refine bodyPost_ret (v := .tuple #[.agg #[.int .i64 (wrap64 (r1.add + r2.add)), .string (p1 ++ p2), .string (m1 ++ m2)], .int .i64 0]) ?_ rfl (AddPost.mk (addF_ok hr1.out hr2.out h1.out h2.out ?_ ?_))
         · simp [results, Try.results8, go_sem]
         · simp_all
         · simp_all)

end Go.Proofs.Ythhlghoeapjagaa
