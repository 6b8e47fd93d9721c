/- Lines: what was printed is read as it was: the walk. -/
import Derived.Test.YtcdbldakjepjiaaDoorWs
import Derived.Test.YtcdbldakjepjiaaDoorM1
import Derived.Test.YtcdbldakjepjiaaDoorM4
set_option linter.unusedVariables false
set_option linter.unusedSimpArgs false
namespace Go.Proofs.YtcdbldakjepjiaaDoor
open Go.RowKit
set_option maxRecDepth 100000

/-! ### Clone and plain of nothing -/
def noT : AV := .s (.l (.d (.sd 4 [])))
theorem en_cloneE (args : Array Value) (w : World) : (callFunc 41 args).run Tryd.prog w = .ok (.enter 41 args) w := by go_simp
theorem run_eql_sliceN {P : Program} (w : World) (t e : TypeId) (a : Option Addr) (l c : Nat) (h : P.underlying t = some (.slice e)) : (binOp .eql t (.slice a l c) (.slice none 0 0)).run P w = .ok (.bool a.isNone) w := by
  have h1 : ∀ d : Nat, (Op.equalIn (d + 1) t (.slice a l c) (.slice none 0 0)).run P w = .ok a.isNone w := fun d => by cases a <;> simp [Op.equalIn, run_underlying h]
  simp only [binOp]
  simp [Op.equal, Op.maxDepth, h1 9999]
theorem cloneE_calls (A : Option Addr) (cap : Nat) (w : World) : Calls Tryd.prog 41 #[.slice A 0 cap] w fun e w' => (∃ A' cap', e = .returned (.slice A' 0 cap')) ∧ Below w.heap.size w w' := by
  cases A with
  | none =>
    go_enter Tryd.func41, Tryd.ntmps41
    go_wp2
    rw [run_eql_sliceN _ _ _ _ _ _ Tryd.underlying23]
    simp only [Result.andThen]
    rw [Oper.upon_value]
    go_wp2
    go_ret
    exact ⟨⟨_, _, rfl⟩, Below.refl _ _⟩
  | some a =>
    go_enter Tryd.func41, Tryd.ntmps41
    go_wp2
    rw [run_eql_sliceN _ _ _ _ _ _ Tryd.underlying23]
    simp only [Result.andThen]
    rw [Oper.upon_value]
    go_wp2
    go_ret
    exact ⟨⟨_, _, rfl⟩, (Below.refl _ _).alloc (Nat.le_refl _) _⟩

def noRun : List AV → Option Res
  | [.s (.l (.d (.sd 4 [])))] => some ⟨True, noT, []⟩
  | _ => none
def cloneES : Spec Tryd.prog 41 where
  enter := en_cloneE
  run := fun _ _ args => noRun args
  mono := fun _ hr => hr
  sound := by
    intro id h args R hr hob B w0 ρ al w vals H hid hA
    unfold noRun at hr
    split at hr
    case h_2 => cases hr
    injection hr with hr
    subst hr
    match vals, hA with
    | [v], ⟨hv, _⟩ =>
      have hv : DRep al.M (.sd 4 []) v := hv
      simp only [DRep] at hv
      obtain ⟨A, cap, rfl, _, _⟩ := hv
      refine (cloneE_calls A cap w).mono ?_
      rintro e w' ⟨⟨A', cap', rfl⟩, hb⟩
      refine ⟨_, ρ, al, rfl, .refl _ _, fun b hb => .inl hb, ?_, H.step (.refl _ _) (H.below.trans ((keeps_below hb).mono fun k hk => H.size k hk)) (fun b k hk hc => hb.block _ (H.lt hk hc)) (fun b ⟨_, _, hb'⟩ => hb.block _ (H.memLt hb'))⟩
      show DRep al.M (.sd 4 []) _
      simp only [DRep]
      exact ⟨A', cap', rfl, Nat.zero_le _, fun h => absurd rfl h⟩
theorem cloneE_run {id : Nat} {h : Heap} {zs : List AV} : cloneES.run id h zs = noRun zs := rfl
theorem cloneE_pan {id : Nat} {h : Heap} {zs : List AV} : cloneES.pan id h zs = none := rfl
theorem plainE_sw : SW Tryd.prog ⟨none, 0⟩ Tryd.f14.ntmps (Tryd.f14.body.getD .skip) ⟨0, zipT 0 [noT], []⟩ (outQ Tryd.prog Tryd.f14.results.toList (.ret noT)) := by
  refine aRun_sound (ctx := [⟨_, cloneES⟩]) 4000 ?_
  rw [Tryd.ntmps14, Tryd.results14]
  simp only [Tryd.f14, Option.getD_some, zipT]
  simp only [go_sem, Nat.reduceOr, Nat.reducePow, Nat.reduceDiv, Nat.reduceMod, Nat.reduceBEq, Int.reduceBEq, Int.reduceBNe, Int.reduceEq, Int.reduceLT, Int.reduceLE, Int.reduceToNat, reduceIte, reduceCtorEq, Nat.reduceEqDiff, Nat.reduceAdd, Nat.reduceLT, Nat.reduceLeDiff, Nat.reduceMul, Nat.reduceSub, cloneE_run, cloneE_pan, noRun, noT]
  refine sw_loop (ι := Unit) (fun _ => True) (fun _ => ⟨0, [(3, noT), (8, iv 0), (9, iv 0)], []⟩) (fun _ => 0) () trivial (Wk.renL [] (by simp) (by simp) (by simp) rfl rfl) ?_
  intro _ _
  refine aRun_sound (ctx := []) 4000 ?_
  simp only [go_sem, Nat.reduceOr, Nat.reducePow, Nat.reduceDiv, Nat.reduceMod, Nat.reduceBEq, Int.reduceBEq, Int.reduceBNe, Int.reduceEq, Int.reduceLT, Int.reduceLE, Int.reduceToNat, reduceIte, reduceCtorEq, Nat.reduceEqDiff, Nat.reduceAdd, Nat.reduceLT, Nat.reduceLeDiff, Nat.reduceMul, Nat.reduceSub, noT]
theorem en_plainE (args : Array Value) (w : World) : (callFunc 14 args).run Tryd.prog w = .ok (.enter 14 args) w := by go_simp
def plainES : Spec Tryd.prog 14 :=
  mk1 _ _ _ Tryd.func14 rfl en_plainE (tToks) ((fun l => l = [])) ((fun _ => .ret noT)) (by rw [Tryd.ntmps14]; decide) (fun l h => by subst h; exact plainE_sw)
theorem plainE_run {id : Nat} {h : Heap} {args : List AV} : (plainES).run id h args = runP (args1 (tToks) ((fun l => l = []))) ((fun _ => .ret noT)) h args := rfl
theorem plainE_pan {id : Nat} {h : Heap} {args : List AV} : (plainES).pan id h args = panP (args1 (tToks) ((fun l => l = []))) ((fun _ => .ret noT)) h args := rfl

/-! ### The law -/
set_option maxHeartbeats 4000000 in
theorem back_sw (l : List Tok) (s : ByteArray) (h : ∀ t ∈ l, smallT t) : SW Tryd.prog ⟨none, 0⟩ Tryd.f8.ntmps (Tryd.f8.body.getD .skip) ⟨0, zipT 0 [tToks.enc l, tStr.enc s], []⟩ (outQ Tryd.prog Tryd.f8.results.toList (.ret (bv true))) := by
  obtain ⟨m, hm⟩ : ∃ m, l.take 700 = m := ⟨_, rfl⟩
  have hml : m.length ≤ 700 := by rw [← hm, List.length_take]; omega
  have hms : ∀ t ∈ m, smallT t := fun t ht => h t (by rw [← hm] at ht; exact List.mem_of_mem_take ht)
  have hq : m.length ≤ 1000000 ∧ ∀ t ∈ m, smallT t := ⟨by omega, hms⟩
  obtain ⟨P, hP⟩ : ∃ P : Spec Tryd.prog 14, P = if m = [] then plainES else plainS := ⟨_, rfl⟩
  refine aRun_sound (ctx := [⟨_, begunS⟩, ⟨_, quoteS⟩, ⟨_, unquoteS⟩, ⟨_, fewS⟩, ⟨_, printS⟩, ⟨_, lexS⟩, ⟨_, P⟩, ⟨_, eqToksS⟩]) 4000 ?_
  rw [Tryd.ntmps8, Tryd.results8]
  simp only [Tryd.f8, Option.getD_some, zipT]
  by_cases c1 : 2000 < s.size
  · have c1I : (2000 : Int) < s.size := by omega
    simp only [go_sem, Nat.reduceOr, Nat.reducePow, Nat.reduceDiv, Nat.reduceMod, Nat.reduceBEq, Int.reduceBEq, Int.reduceBNe, Int.reduceEq, Int.reduceLT, Int.reduceLE, Int.reduceToNat, reduceIte, reduceCtorEq, Nat.reduceEqDiff, Nat.reduceAdd, Nat.reduceLT, Nat.reduceLeDiff, Nat.reduceMul, Nat.reduceSub, c1I, begun_run, begun_pan]
  have c1I : ¬ (2000 : Int) < s.size := by omega
  have hs1 : s.size ≤ 1000000 := by omega
  have hrg : ∀ z ∈ toBytes s, 0 ≤ z ∧ z ≤ 255 := fun z hz => toBytes_range hz
  obtain ⟨qs, hqs⟩ : ∃ qs, ofBytes (quoteL (toBytes s)) = qs := ⟨_, rfl⟩
  have hqz : qs.size ≤ 1099511627776 := by
    rw [← hqs, ofBytes_size]
    have := quoteL_len (toBytes s)
    rw [toBytes_length] at this
    omega
  have hqt : unquoteF (toBytes qs) = (toBytes s, 0) := by rw [← hqs, toBytes_ofBytes (quoteL_range hrg)]; exact unquote_of hrg
  have hob := ofBytes_toBytes s
  obtain ⟨⟨b, e⟩, hpf⟩ : ∃ p, printF m = p := ⟨_, rfl⟩
  by_cases he : e = 0
  case neg =>
    simp only [go_sem, Nat.reduceOr, Nat.reducePow, Nat.reduceDiv, Nat.reduceMod, Nat.reduceBEq, Int.reduceBEq, Int.reduceBNe, Int.reduceEq, Int.reduceLT, Int.reduceLE, Int.reduceToNat, reduceIte, reduceCtorEq, Nat.reduceEqDiff, Nat.reduceAdd, Nat.reduceLT, Nat.reduceLeDiff, Nat.reduceMul, Nat.reduceSub, c1I, begun_run, begun_pan, quote_run, quote_pan, hs1, hqs, unquote_run, unquote_pan, hqz, hqt, unqO, hob, few_run, few_pan, hm, toksV, print_run, print_pan, decAllD_map, hq, hpf, prO, he]
    exact hms
  subst he
  obtain ⟨ts, k1, k2⟩ := print_back hpf fun u hu => (hms u hu).2
  have hlx : lexO (linesF (toBytes b)) = .tup [toksV ts, .l (.v (.int .i64 b.size)), .l (.v (.int .i64 0))] := by rw [k1]; rfl
  have hlen : ts.length = m.length := by rw [← List.length_map bare, k2, List.length_map]
  by_cases hn : m = []
  · rw [if_pos hn] at hP
    subst hn
    obtain rfl : ts = [] := List.eq_nil_of_length_eq_zero hlen
    have hq : ([] : List Tok).length ≤ 1000000 ∧ ∀ t ∈ ([] : List Tok), smallT t := ⟨by decide, by simp⟩
    subst hP
    simp only [go_sem, Nat.reduceOr, Nat.reducePow, Nat.reduceDiv, Nat.reduceMod, Nat.reduceBEq, Int.reduceBEq, Int.reduceBNe, Int.reduceEq, Int.reduceLT, Int.reduceLE, Int.reduceToNat, reduceIte, reduceCtorEq, Nat.reduceEqDiff, Nat.reduceAdd, Nat.reduceLT, Nat.reduceLeDiff, Nat.reduceMul, Nat.reduceSub, c1I, begun_run, begun_pan, quote_run, quote_pan, hs1, hqs, unquote_run, unquote_pan, hqz, hqt, unqO, hob, few_run, few_pan, hm, toksV, print_run, print_pan, decAllD, hq, hpf, prO, lex_run, lex_pan, hlx, plainE_run, plainE_pan, noT, eqToks_run, eqToks_pan]
  · rw [if_neg hn] at hP
    subst hP
    have hn2 : ts ≠ [] := fun h => hn (List.eq_nil_of_length_eq_zero (by rw [← hlen, h]; rfl))
    have hq1 : ts.length ≤ 1000000 := by omega
    have hq2 : m.length ≤ 1000000 := by omega
    have hq3 : (m.map bare).length ≤ 1000000 := by rw [List.length_map]; omega
    simp only [go_sem, Nat.reduceOr, Nat.reducePow, Nat.reduceDiv, Nat.reduceMod, Nat.reduceBEq, Int.reduceBEq, Int.reduceBNe, Int.reduceEq, Int.reduceLT, Int.reduceLE, Int.reduceToNat, reduceIte, reduceCtorEq, Nat.reduceEqDiff, Nat.reduceAdd, Nat.reduceLT, Nat.reduceLeDiff, Nat.reduceMul, Nat.reduceSub, c1I, begun_run, begun_pan, quote_run, quote_pan, hs1, hqs, unquote_run, unquote_pan, hqz, hqt, unqO, hob, few_run, few_pan, hm, toksV, print_run, print_pan, decAllD_map, hq, hpf, prO, lex_run, lex_pan, hlx, plain_run, plain_pan, eqToks_run, eqToks_pan, hn, hn2, hq1, hq2, hq3, k2]
    exact hms

end Go.Proofs.YtcdbldakjepjiaaDoor
