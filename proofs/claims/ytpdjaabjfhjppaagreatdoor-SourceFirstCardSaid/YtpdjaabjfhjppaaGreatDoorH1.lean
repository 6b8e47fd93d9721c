/- Faults: walks of Less, First, and of the library's Clone, Index, Contains. -/
import Derived.Test.YtpdjaabjfhjppaaGreatDoorWs
import Derived.Test.YtpdjaabjfhjppaaGreatDoorChecked
import Derived.Test.YtpdjaabjfhjppaaGreatDoorC0
import Derived.Test.YtpdjaabjfhjppaaGreatDoorH0
set_option linter.unusedVariables false
set_option linter.unusedSimpArgs false
namespace Go.Proofs.YtpdjaabjfhjppaaGreatDoor
open Go.RowKit
set_option maxRecDepth 100000

def fltR : RowTy Flt where
  dec := fun | [.v (.int .i64 a), .v (.int .i64 b), .v (.int .i64 c)] => some ⟨a, b, c⟩ | _ => none
  enc := fun t => [.v (.int .i64 t.file), .v (.int .i64 t.line), .v (.int .i64 t.err)]
  inv := by
    intro c x h
    split at h
    · injection h with h; subst h; rfl
    · cases h
  back := by intro x; rfl
theorem fltE (t : Flt) : fltR.enc t = [.v (.int .i64 t.file), .v (.int .i64 t.line), .v (.int .i64 t.err)] := rfl
theorem fltD (a b c : Int) : fltR.dec [.v (.int .i64 a), .v (.int .i64 b), .v (.int .i64 c)] = some ⟨a, b, c⟩ := rfl
theorem mixed : Tryz.prog.follows .mixedOrders = true := by kernel_rfl
def fltV (t : Flt) : SV := .agg [.v (.int .i64 t.file), .v (.int .i64 t.line), .v (.int .i64 t.err)]
abbrev tFlt : Ty Flt := tAgg fltR
abbrev tFlts : Ty (List Flt) := tSl 3 fltR
def cellF (t : Flt) : Blk := ⟨true, 25, 3, [[.v (.int .i64 t.file), .v (.int .i64 t.line), .v (.int .i64 t.err)]]⟩
theorem flat_flt : flatT Tryz.prog 25 = some [1, 1, 1] := by kernel_rfl

set_option maxHeartbeats 4000000 in
theorem less_sw (a b : Flt) : SW Tryz.prog ⟨none, 0⟩ Tryz.f6.ntmps (Tryz.f6.body.getD .skip) ⟨0, zipT 0 [tFlt.enc a, tFlt.enc b], []⟩ (outQ Tryz.prog Tryz.f6.results.toList (.ret (bv (lessF a b)))) := by
  refine aRun_sound (ctx := []) 4000 ?_
  rw [Tryz.ntmps6, Tryz.results6]
  simp only [Tryz.f6, Option.getD_some, zipT]
  obtain ⟨a1, a2, a3⟩ := a
  obtain ⟨b1, b2, b3⟩ := b
  by_cases h1 : a1 = b1
  · by_cases h2 : a2 = b2
    · by_cases h3 : a3 = b3
      · have e : lessF ⟨a1, a2, a3⟩ ⟨b1, b2, b3⟩ = false := by rw [h1, h2, h3]; exact lessF_irr _
        simp only [go_sem, fltR, pure_flat_eql, orPure_eq, flatEq, flat_flt, eqKs, eq_true h1, eq_true h2, eq_true h3, e]
      · have e : lessF ⟨a1, a2, a3⟩ ⟨b1, b2, b3⟩ = decide (a3 < b3) := by rw [Bool.eq_iff_iff, lessF_iff, decide_eq_true_eq]; simp only; omega
        simp only [go_sem, fltR, pure_flat_eql, orPure_eq, flatEq, flat_flt, eqKs, eq_true h1, eq_true h2, h3, e]
    · have e : lessF ⟨a1, a2, a3⟩ ⟨b1, b2, b3⟩ = decide (a2 < b2) := by rw [Bool.eq_iff_iff, lessF_iff, decide_eq_true_eq]; simp only; omega
      simp only [go_sem, fltR, pure_flat_eql, orPure_eq, flatEq, flat_flt, eqKs, eq_true h1, h2, e, Bool.false_and]
  · have e : lessF ⟨a1, a2, a3⟩ ⟨b1, b2, b3⟩ = decide (a1 < b1) := by rw [Bool.eq_iff_iff, lessF_iff, decide_eq_true_eq]; simp only; omega
    simp only [go_sem, fltR, pure_flat_eql, orPure_eq, flatEq, flat_flt, eqKs, h1, e, Bool.false_and]
theorem en_less (args : Array Value) (w : World) : (callFunc 6 args).run Tryz.prog w = .ok (.enter 6 args) w := by go_simp
def lessS : Spec Tryz.prog 6 :=
  mk2 _ _ _ Tryz.func6 rfl en_less (tFlt) (tFlt) ((fun _ _ => True)) ((fun a b => .ret (bv (lessF a b)))) (by rw [Tryz.ntmps6]; decide) (fun a b _ => less_sw a b)
theorem less_run {id : Nat} {h : Heap} {args : List AV} : (lessS).run id h args = runP (args2 (tFlt) (tFlt) ((fun _ _ => True))) (fun x => ((fun a b => .ret (bv (lessF a b)))) x.1 x.2) h args := rfl
theorem less_pan {id : Nat} {h : Heap} {args : List AV} : (lessS).pan id h args = panP (args2 (tFlt) (tFlt) ((fun _ _ => True))) (fun x => ((fun a b => .ret (bv (lessF a b)))) x.1 x.2) h args := rfl

def firstV (x : Flt × Bool) : AV := .tup [fltV x.1, .l (.v (.bool x.2))]
set_option maxHeartbeats 4000000 in
theorem first_sw (l : List Flt) (hl : l.length ≤ 1000000) : SW Tryz.prog ⟨none, 0⟩ Tryz.f5.ntmps (Tryz.f5.body.getD .skip) ⟨0, zipT 0 [tFlts.enc l], []⟩ (outQ Tryz.prog Tryz.f5.results.toList (.ret (firstV (firstO l)))) := by
  refine aRun_sound (ctx := []) 4000 ?_
  rw [Tryz.ntmps5, Tryz.results5]
  simp only [Tryz.f5, Option.getD_some, zipT]
  cases l with
  | nil => simp only [go_sem, firstV, firstO, fltV]
  | cons x l =>
    simp only [List.length_cons] at hl
    have h0 : ¬ (((l.length + 1 : Nat) : Int) = 0) := by omega
    have h1 : (1 : Int) ≤ ((l.length + 1 : Nat) : Int) := by omega
    have et : List.take (l.length + 1 - 1) (List.map fltR.enc l) = List.map fltR.enc l := List.take_of_length_le (by simp)
    simp only [go_sem, h0, h1, fltE, et]
    refine sw_loop (ι := Nat) (fun i => i ≤ l.length) (fun i => ⟨2, [(2, pv 0 0 0), (4, pv 1 0 0), (15, tFlts.enc l), (16, iv l.length), (17, iv i)], [(0, some (cellF ⟨0, 0, 0⟩)), (1, some (cellF (firstL x (l.take i))))]⟩) (fun i => l.length - i) 0 (Nat.zero_le _) ?_ ?_
    · exact Wk.renL [0, 128] (by simp) (by simp) (by simp) rfl rfl
    intro i hi
    refine aRun_sound (ctx := [⟨_, lessS⟩]) 4000 ?_
    by_cases hlt : i < l.length
    · have hltI : (i : Int) < l.length := by omega
      obtain ⟨r, hr⟩ : ∃ r, l[i]? = some r := ⟨_, List.getElem?_eq_getElem hlt⟩
      have ei : IntKind.i64.wrap ((i : Int) + 1) = ((i + 1 : Nat) : Int) := by rw [IntKind.wrap_i64]; omega
      have hn : firstL x (l.take (i + 1)) = minF (firstL x (l.take i)) r := by
        unfold firstL
        rw [List.take_add_one, hr, List.foldl_append]; rfl
      generalize firstL x (l.take i) = m at hn
      by_cases hc : lessF r m = true
      · have hm : firstL x (l.take (i + 1)) = r := by rw [hn]; unfold minF; rw [if_pos hc]
        simp only [go_sem, hltI, hlt, hr, less_run, less_pan, fltR, cellF, hc, ei]
        exact ⟨i + 1, hlt, by omega, Wk.renL [0, 1] (by simp) (by simp) (by simp) rfl (by rw [hm]; rfl)⟩
      · have hm : firstL x (l.take (i + 1)) = m := by rw [hn]; unfold minF; rw [if_neg hc]
        have hc' : lessF r m = false := by simpa using hc
        simp only [go_sem, hltI, hlt, hr, less_run, less_pan, fltR, cellF, hc', ei]
        exact ⟨i + 1, hlt, by omega, Wk.renL [0, 1] (by simp) (by simp) (by simp) rfl (by rw [hm]; rfl)⟩
    · obtain rfl : i = l.length := by omega
      have hI : ¬ (l.length : Int) < l.length := by omega
      simp only [go_sem, hI, List.take_length, firstV, firstO, fltV, cellF]
theorem en_first (args : Array Value) (w : World) : (callFunc 5 args).run Tryz.prog w = .ok (.enter 5 args) w := by go_simp
def firstS : Spec Tryz.prog 5 :=
  mk1 _ _ _ Tryz.func5 rfl en_first (tFlts) ((fun l => l.length ≤ 1000000)) ((fun l => .ret (firstV (firstO l)))) (by rw [Tryz.ntmps5]; decide) (fun l h => first_sw l h)
theorem first_run {id : Nat} {h : Heap} {args : List AV} : (firstS).run id h args = runP (args1 (tFlts) ((fun l => l.length ≤ 1000000))) ((fun l => .ret (firstV (firstO l)))) h args := rfl
theorem first_pan {id : Nat} {h : Heap} {args : List AV} : (firstS).pan id h args = panP (args1 (tFlts) ((fun l => l.length ≤ 1000000))) ((fun l => .ret (firstV (firstO l)))) h args := rfl

/-! ### Index, Contains -/
def ixF (v : Flt) : List Flt → Int
  | [] => -1
  | x :: l => if v = x then 0 else if ixF v l < 0 then -1 else ixF v l + 1
theorem ixF_at : ∀ {l : List Flt} {v : Flt} {i : Nat}, (∀ j, j < i → l[j]? ≠ some v) → l[i]? = some v → ixF v l = i
  | [], v, i, _, h => by cases h
  | x :: l, v, i, hn, h => by
    cases i with
    | zero =>
      injection h with h
      subst h
      simp [ixF]
    | succ i =>
      have h0 : ¬ v = x := by
        rintro rfl
        exact hn 0 (Nat.zero_lt_succ _) rfl
      have := ixF_at (l := l) (v := v) (i := i) (fun j hj => by have := hn (j + 1) (by omega); simpa using this) (by simpa using h)
      rw [ixF, if_neg h0, this, if_neg (by omega)]
      omega
theorem ixF_none : ∀ {l : List Flt} {v : Flt}, (∀ j : Nat, l[j]? ≠ some v) → ixF v l = -1
  | [], v, _ => rfl
  | x :: l, v, hn => by
    have h0 : ¬ v = x := by
      rintro rfl
      exact hn 0 rfl
    have := ixF_none (l := l) (v := v) (fun j => by have := hn (j + 1); simpa using this)
    rw [ixF, if_neg h0, this, if_pos (by omega)]
theorem flt_ext {a b : Flt} (h1 : a.file = b.file) (h2 : a.line = b.line) (h3 : a.err = b.err) : a = b := by cases a; cases b; simp_all

set_option maxHeartbeats 4000000 in
theorem ix_sw (l : List Flt) (v : Flt) (hl : l.length ≤ 1000000) : SW Tryz.prog ⟨none, 0⟩ Tryz.f10.ntmps (Tryz.f10.body.getD .skip) ⟨0, zipT 0 [tFlts.enc l, tFlt.enc v], []⟩ (outQ Tryz.prog Tryz.f10.results.toList (.ret (iv (ixF v l)))) := by
  refine aRun_sound (ctx := []) 4000 ?_
  rw [Tryz.ntmps10, Tryz.results10]
  simp only [Tryz.f10, Option.getD_some, zipT]
  simp only [go_sem, fltE]
  refine sw_loop (ι := Nat) (fun i => i ≤ l.length ∧ ∀ j, j < i → l[j]? ≠ some v) (fun i => ⟨1, [(0, tFlts.enc l), (3, pv 0 0 0), (7, iv l.length), (8, iv i)], [(0, some (cellF v))]⟩) (fun i => l.length - i) 0 ⟨Nat.zero_le _, fun j hj => absurd hj (Nat.not_lt_zero _)⟩ ?_ ?_
  · exact Wk.renL [0] (by simp) (by simp) (by simp) rfl rfl
  rintro i ⟨hi, hn⟩
  refine aRun_sound (ctx := []) 4000 ?_
  by_cases hlt : i < l.length
  · have hltI : (i : Int) < l.length := by omega
    obtain ⟨r, hr⟩ : ∃ r, l[i]? = some r := ⟨_, List.getElem?_eq_getElem hlt⟩
    have ei : IntKind.i64.wrap ((i : Int) + 1) = ((i + 1 : Nat) : Int) := by rw [IntKind.wrap_i64]; omega
    have go : ¬ v = r → i + 1 ≤ l.length ∧ ∀ j, j < i + 1 → l[j]? ≠ some v := fun hne => ⟨hlt, fun j hj => by
      by_cases e : j = i
      · subst e
        rw [hr]
        intro h
        injection h with h
        exact hne h.symm
      · exact hn j (by omega)⟩
    simp only [go_sem, hltI]
    refine sw_draw (ctx := []) mixed [] (by kernel_rfl) ?_
    by_cases h1 : v.file = r.file
    case neg =>
      simp only [go_sem, cellF, hr, hlt, hltI, fltR, pure_flat_eql, orPure_eq, flatEq, flat_flt, eqKs, h1, Bool.false_and, ei]
      exact ⟨i + 1, go (fun h => h1 (by rw [h])), by omega, Wk.renL [0] (by simp) (by simp) (by simp) rfl rfl⟩
    by_cases h2 : v.line = r.line
    case neg =>
      simp only [go_sem, cellF, hr, hlt, hltI, fltR, pure_flat_eql, orPure_eq, flatEq, flat_flt, eqKs, eq_true h1, h2, Bool.false_and, ei]
      exact ⟨i + 1, go (fun h => h2 (by rw [h])), by omega, Wk.renL [0] (by simp) (by simp) (by simp) rfl rfl⟩
    by_cases h3 : v.err = r.err
    case neg =>
      simp only [go_sem, cellF, hr, hlt, hltI, fltR, pure_flat_eql, orPure_eq, flatEq, flat_flt, eqKs, eq_true h1, eq_true h2, h3, ei]
      exact ⟨i + 1, go (fun h => h3 (by rw [h])), by omega, Wk.renL [0] (by simp) (by simp) (by simp) rfl rfl⟩
    have e : ixF v l = i := ixF_at hn (by rw [hr, flt_ext h1 h2 h3])
    simp only [go_sem, cellF, hr, hlt, hltI, fltR, pure_flat_eql, orPure_eq, flatEq, flat_flt, eqKs, eq_true h1, eq_true h2, eq_true h3, e]
  · obtain rfl : i = l.length := by omega
    have hI : ¬ (l.length : Int) < l.length := by omega
    have e : ixF v l = -1 := ixF_none (fun j => by
      by_cases hj : j < l.length
      · exact hn j hj
      · rw [List.getElem?_eq_none (by omega)]; simp)
    simp only [go_sem, hI, e]
theorem en_ix (args : Array Value) (w : World) : (callFunc 10 args).run Tryz.prog w = .ok (.enter 10 args) w := by go_simp
def ixS : Spec Tryz.prog 10 :=
  mk2 _ _ _ Tryz.func10 rfl en_ix (tFlts) (tFlt) ((fun l _ => l.length ≤ 1000000)) ((fun l v => .ret (iv (ixF v l)))) (by rw [Tryz.ntmps10]; decide) (fun l v h => ix_sw l v h)
theorem ix_run {id : Nat} {h : Heap} {args : List AV} : (ixS).run id h args = runP (args2 (tFlts) (tFlt) ((fun l _ => l.length ≤ 1000000))) (fun x => ((fun l v => .ret (iv (ixF v l)))) x.1 x.2) h args := rfl
theorem ix_pan {id : Nat} {h : Heap} {args : List AV} : (ixS).pan id h args = panP (args2 (tFlts) (tFlt) ((fun l _ => l.length ≤ 1000000))) (fun x => ((fun l v => .ret (iv (ixF v l)))) x.1 x.2) h args := rfl

theorem en_has (args : Array Value) (w : World) : (callFunc 8 args).run Tryz.prog w = .ok (.enter 8 args) w := by go_simp
def hasS : Spec Tryz.prog 8 :=
  mk2 _ _ _ Tryz.func8 rfl en_has (tFlts) (tFlt) ((fun l _ => l.length ≤ 1000000)) ((fun l v => .ret (bv (decide (0 ≤ ixF v l))))) (by rw [Tryz.ntmps8]; decide) (fun l v h => by
  refine aRun_sound (ctx := [⟨_, ixS⟩]) 4000 ?_
  rw [Tryz.ntmps8, Tryz.results8]
  simp only [Tryz.f8, Option.getD_some, zipT]
  simp only [go_sem, ix_run, ix_pan, fltE, fltD, h])
theorem has_run {id : Nat} {h : Heap} {args : List AV} : (hasS).run id h args = runP (args2 (tFlts) (tFlt) ((fun l _ => l.length ≤ 1000000))) (fun x => ((fun l v => .ret (bv (decide (0 ≤ ixF v l))))) x.1 x.2) h args := rfl
theorem has_pan {id : Nat} {h : Heap} {args : List AV} : (hasS).pan id h args = panP (args2 (tFlts) (tFlt) ((fun l _ => l.length ≤ 1000000))) (fun x => ((fun l v => .ret (bv (decide (0 ≤ ixF v l))))) x.1 x.2) h args := rfl
theorem ixF_mem {l : List Flt} {v : Flt} (h : v ∈ l) : 0 ≤ ixF v l := by
  induction l with
  | nil => cases h
  | cons x l ih =>
    rw [ixF]
    by_cases e : v = x
    · rw [if_pos e]; omega
    · rw [if_neg e]
      have := ih (by rcases List.mem_cons.1 h with h | h; exact absurd h e; exact h)
      rw [if_neg (by omega)]; omega

end Go.Proofs.YtpdjaabjfhjppaaGreatDoor
