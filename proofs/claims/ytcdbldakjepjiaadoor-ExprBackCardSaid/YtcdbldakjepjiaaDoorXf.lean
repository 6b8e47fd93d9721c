/- A value's text, read and reckoned again: the walk. -/
import Derived.Test.YtcdbldakjepjiaaDoorXb
import Derived.Test.YtcdbldakjepjiaaDoorXc
import Derived.Test.YtcdbldakjepjiaaDoorXe
import Derived.Test.YtcdbldakjepjiaaDoorC0
set_option linter.unusedVariables false
set_option linter.unusedSimpArgs false
namespace Go.Proofs.YtcdbldakjepjiaaDoor.Ex
open Go.RowKit
set_option maxRecDepth 100000

theorem en_live (args : Array Value) (w : World) : (callFunc 32 args).run Tryd.prog w = .ok (.enter 32 args) w := by go_simp
theorem en_check (args : Array Value) (w : World) : (callFunc 73 args).run Tryd.prog w = .ok (.enter 73 args) w := by go_simp
theorem en_eval (args : Array Value) (w : World) : (callFunc 35 args).run Tryd.prog w = .ok (.enter 35 args) w := by go_simp
theorem en_print (args : Array Value) (w : World) : (callFunc 33 args).run Tryd.prog w = .ok (.enter 33 args) w := by go_simp

def valR : RowTy Val where
  dec := fun | [.v (.int .i64 a), .v (.string p), .v (.string m)] => some ⟨a, p, m⟩ | _ => none
  enc := fun v => [.v (.int .i64 v.add), .v (.string v.plus), .v (.string v.minus)]
  inv := by
    intro c x h
    split at h
    · injection h with h; subst h; rfl
    · cases h
  back := by intro x; rfl

/-- terms as the elder contracts see them -/
theorem terms_of {M : Mem} {w : World} (hM : ∀ b o y, M b o = some y → w.cell? ⟨b, o, none⟩ = some y) {ts : List Term} {v : Value} (h : ARep ρ0 (al0 M) ((tSl 3 termR).enc ts) v) : ∃ A cap, v = .slice A ts.length cap ∧ Terms w w.heap.size A ts := by
  have e : ts.map termR.enc = (ts.map Term.cells).map fun e => e.map .v := by
    rw [List.map_map]; exact List.map_congr_left fun t _ => rfl
  have hfl : (ts.map Term.cells).flatten = ts.flatMap Term.cells := by rw [List.flatMap_def]
  have hl : ∀ ts : List Term, (ts.flatMap Term.cells).length = ts.length * 3 := by
    intro ts
    induction ts with
    | nil => rfl
    | cons t r ih => rw [List.flatMap_cons, List.length_append, ih, List.length_cons]; show 3 + _ = _; omega
  have h' : DRep M (.sd 3 ((ts.map Term.cells).map fun e => e.map .v)) v := by rw [← e]; exact h
  obtain ⟨A, cap, rfl, hs⟩ := sl_of hM (by rw [hfl, hl, List.length_map]) (fun hne => by
    intro h0
    rw [hfl] at h0
    have := hl ts
    rw [h0] at this
    have : ts = [] := List.eq_nil_of_length_eq_zero (by simp at this; omega)
    rw [this] at hne
    exact hne rfl) h'
  rw [hfl, List.length_map] at hs
  exact ⟨A, cap, by rw [List.length_map], hs⟩

def liveS : Spec Tryd.prog 32 := mk0C _ en_live (bv true) rfl fun w => (live_any w).mono fun e w' ⟨h1, h2⟩ => ⟨⟨_, h1, fun _ => rfl⟩, h2⟩
theorem live_run {id : Nat} {h : Heap} {args : List AV} : liveS.run id h args = runP (args0 True) (fun _ => .ret (bv true)) h args := rfl
theorem live_pan {h : Heap} {id : Nat} {args : List AV} : liveS.pan id h args = panP (args0 True) (fun _ => .ret (bv true)) h args := rfl

def parseS : Spec Tryd.prog 34 := mk1D _ _ en_parse (tSl 4 tokR) (fun l => l.length ≤ 1000000) outParse (by rw [Tryd.ntmps34]; decide) fun l hl => parse_does l hl
theorem parse_run {id : Nat} {h : Heap} {args : List AV} : parseS.run id h args = runP (args1 (tSl 4 tokR) (fun l => l.length ≤ 1000000)) outParse h args := rfl
theorem parse_pan {h : Heap} {id : Nat} {args : List AV} : parseS.pan id h args = panP (args1 (tSl 4 tokR) (fun l => l.length ≤ 1000000)) outParse h args := rfl

def checkS : Spec Tryd.prog 73 := mk1C _ en_check (tSl 3 termR) (fun ts => ts.length ≤ maxLen ∧ ∀ t ∈ ts, t.sym.size ≤ maxLen) (fun ts => iv (checkF ts)) (fun _ => rfl) fun ts hs M w v hM hv => by
  obtain ⟨A, cap, rfl, hT⟩ := terms_of hM hv
  exact (check_any A cap ts w hT hs.1 hs.2).mono fun e w' ⟨h1, h2⟩ => ⟨⟨_, h1, rfl⟩, h2⟩
theorem check_run {id : Nat} {h : Heap} {args : List AV} : checkS.run id h args = runP (args1 (tSl 3 termR) (fun ts => ts.length ≤ maxLen ∧ ∀ t ∈ ts, t.sym.size ≤ maxLen)) (fun ts => .ret (iv (checkF ts))) h args := rfl
theorem check_pan {h : Heap} {id : Nat} {args : List AV} : checkS.pan id h args = panP (args1 (tSl 3 termR) (fun ts => ts.length ≤ maxLen ∧ ∀ t ∈ ts, t.sym.size ≤ maxLen)) (fun ts => .ret (iv (checkF ts))) h args := rfl

def outEval (ts : List Term) : AV := .tup [.agg [.v (.int .i64 (evalAll ts).1.add), .v (.string (evalAll ts).1.plus), .v (.string (evalAll ts).1.minus)], .l (.v (.int .i64 (evalAll ts).2))]
def evalS : Spec Tryd.prog 35 := mk1C _ en_eval (tSl 3 termR) (fun ts => ts.length ≤ 1099511627776 ∧ ∀ t ∈ ts, t.sym.size ≤ 140737488355328) outEval (fun _ => rfl) fun ts hs M w v hM hv => by
  obtain ⟨A, cap, rfl, hT⟩ := terms_of hM hv
  refine (eval_any A cap ts w hT hs.1 hs.2).mono fun e w' h => ?_
  obtain ⟨r, x, h1, h2, h3⟩ := h
  refine ⟨⟨_, h2, [.agg #[.int .i64 r.add, .string r.plus, .string r.minus], .int .i64 x], rfl, ⟨[.int .i64 r.add, .string r.plus, .string r.minus], rfl, ?_⟩, ?_, trivial⟩, h3⟩
  · rw [h1]; exact ⟨rfl, rfl, rfl, rfl, rfl, rfl, trivial⟩
  · rw [h1]; rfl
theorem eval_run {id : Nat} {h : Heap} {args : List AV} : evalS.run id h args = runP (args1 (tSl 3 termR) (fun ts => ts.length ≤ 1099511627776 ∧ ∀ t ∈ ts, t.sym.size ≤ 140737488355328)) (fun ts => .ret (outEval ts)) h args := rfl
theorem eval_pan {h : Heap} {id : Nat} {args : List AV} : evalS.pan id h args = panP (args1 (tSl 3 termR) (fun ts => ts.length ≤ 1099511627776 ∧ ∀ t ∈ ts, t.sym.size ≤ 140737488355328)) (fun ts => .ret (outEval ts)) h args := rfl

def outPrint (v : Val) : AV := .tup [.l (.v (.string (printF v).1)), .l (.v (.int .i64 (printF v).2))]
def okPrint (v : Val) : Prop := v.plus.size ≤ maxLen ∧ v.minus.size ≤ maxLen ∧ -9223372036854775808 ≤ v.add ∧ v.add ≤ 9223372036854775807
def printS : Spec Tryd.prog 33 := mk1C _ en_print (tAgg valR) okPrint outPrint (fun _ => rfl) fun x hs M w v hM hv => by
  obtain ⟨cs, rfl, h1⟩ := hv
  match cs, h1 with
  | [a, b, c], ⟨_, e1, _, e2, _, e3, _⟩ =>
    obtain rfl : a = .int .i64 x.add := e1
    obtain rfl : b = .string x.plus := e2
    obtain rfl : c = .string x.minus := e3
    refine (print_any x.add x.plus x.minus w hs.1 hs.2.1 hs.2.2.1 hs.2.2.2).mono fun e w' h => ?_
    obtain ⟨s, y, h1, h2, h3⟩ := h
    have h1' : printF x = (s, y) := h1
    refine ⟨⟨_, h2, [.string s, .int .i64 y], rfl, ?_, ?_, trivial⟩, h3⟩
    · rw [h1']; rfl
    · rw [h1']; rfl
theorem print_run {id : Nat} {h : Heap} {args : List AV} : printS.run id h args = runP (args1 (tAgg valR) okPrint) (fun v => .ret (outPrint v)) h args := rfl
theorem print_pan {h : Heap} {id : Nat} {args : List AV} : printS.pan id h args = panP (args1 (tAgg valR) okPrint) (fun v => .ret (outPrint v)) h args := rfl


/-! ### The law -/
theorem flat_val : flatT Tryd.prog 51 = some [1, 3, 3] := by kernel_rfl
theorem val_dec (v : Val) : valR.dec [.v (.int .i64 v.add), .v (.string v.plus), .v (.string v.minus)] = some v := rfl
theorem valT_len (v : Val) : (valT v).length ≤ 5 := by
  unfold valT midT tailT
  repeat' split
  all_goals simp
theorem termsV_facts {v : Val} (hv : ValOk v) : (termsV v).length ≤ 1099511627776 ∧ ∀ t ∈ termsV v, t.sym.size ≤ 140737488355328 := by
  have he : emp.size = 0 := rfl
  have hp : v.plus.size ≤ 512 := by
    rcases hv.p with h | h
    · rw [h, he]; decide
    · exact symB_size h
  have hm : v.minus.size ≤ 512 := by
    rcases hv.m with h | h
    · rw [h, he]; decide
    · exact symB_size h
  unfold termsV
  constructor
  · repeat' split
    all_goals simp
  · intro t ht
    have key : t.sym = emp ∨ t.sym = v.plus ∨ t.sym = v.minus := by
      revert ht
      repeat' split
      all_goals
        intro ht
        simp only [List.mem_cons, List.mem_append, List.not_mem_nil, or_false, false_or, List.append_nil, List.nil_append, List.cons_append] at ht
        try (rcases ht with rfl | rfl | rfl | rfl | rfl <;> simp)
        try (rcases ht with rfl | rfl | rfl <;> simp)
        try (rcases ht with rfl | rfl <;> simp)
        try (subst ht; simp)
    rcases key with h | h | h
    · rw [h, he]; decide
    · rw [h]; omega
    · rw [h]; omega
set_option maxHeartbeats 2000000 in
theorem said_sw (v : Val) (hp : v.plus.size ≤ maxLen) (hm : v.minus.size ≤ maxLen) (lo : -9223372036854775808 ≤ v.add) (hi : v.add ≤ 9223372036854775807) :
    SW Tryd.prog ⟨none, 0⟩ Tryd.f9.ntmps (Tryd.f9.body.getD .skip) ⟨0, zipT 0 [(tAgg valR).enc v], []⟩ (outQ Tryd.prog Tryd.f9.results.toList (.ret (bv true))) := by
  refine aRun_sound (ctx := [⟨_, liveS⟩, ⟨_, printS⟩, ⟨_, lexS⟩, ⟨_, parseS⟩, ⟨_, evalS⟩]) 4000 ?_
  rw [Tryd.ntmps9, Tryd.results9]
  simp only [Tryd.f9, Option.getD_some, zipT]
  have hdec := val_dec v
  have hok : okPrint v := ⟨hp, hm, lo, hi⟩
  have hE : valR.enc v = [.v (.int .i64 v.add), .v (.string v.plus), .v (.string v.minus)] := rfl
  obtain ⟨⟨s, e⟩, hpf⟩ : ∃ p, printF v = p := ⟨_, rfl⟩
  by_cases he : e = 0
  case neg => simp only [go_sem, Nat.reduceOr, Nat.reducePow, Nat.reduceDiv, Nat.reduceMod, Nat.reduceBEq, Int.reduceBEq, Int.reduceBNe, Int.reduceEq, Int.reduceLT, Int.reduceLE, Int.reduceToNat, reduceIte, reduceCtorEq, Nat.reduceEqDiff, Nat.reduceAdd, Nat.reduceLT, Nat.reduceLeDiff, Nat.reduceMul, Nat.reduceSub, hE, live_run, live_pan, print_run, print_pan, outPrint, hdec, hok, hpf, he]
  subst he
  by_cases hs : 512 < s.size
  · have hsI : (512 : Int) < s.size := by omega
    simp only [go_sem, Nat.reduceOr, Nat.reducePow, Nat.reduceDiv, Nat.reduceMod, Nat.reduceBEq, Int.reduceBEq, Int.reduceBNe, Int.reduceEq, Int.reduceLT, Int.reduceLE, Int.reduceToNat, reduceIte, reduceCtorEq, Nat.reduceEqDiff, Nat.reduceAdd, Nat.reduceLT, Nat.reduceLeDiff, Nat.reduceMul, Nat.reduceSub, hE, live_run, live_pan, print_run, print_pan, outPrint, hdec, hok, hpf, hsI]
  have hsI : ¬ (512 : Int) < s.size := by omega
  have hv := print_ok hpf lo hi
  obtain ⟨ts, k1, k2⟩ := val_lex hpf hv (by omega)
  have hlx : lexO (linesF (toBytes s)) = .tup [toksV ts, .l (.v (.int .i64 s.size)), .l (.v (.int .i64 0))] := by rw [k1]; rfl
  have hpr : outParse ts = .ret (.tup [.l (.d (.sd 3 ((termsV v).map termR.enc))), .l (.v (.int .i64 ts.length)), .l (.v (.int .i64 0))]) := by unfold outParse; rw [val_parse hv k2]
  have hev : outEval (termsV v) = .tup [.agg [.v (.int .i64 v.add), .v (.string v.plus), .v (.string v.minus)], .l (.v (.int .i64 0))] := by unfold outEval; rw [val_eval hv]
  have hlen : ts.length ≤ 1000000 := by
    have := valT_len v
    rw [← k2, List.length_map] at this
    omega
  have hq := termsV_facts hv
  simp only [go_sem, Nat.reduceOr, Nat.reducePow, Nat.reduceDiv, Nat.reduceMod, Nat.reduceBEq, Int.reduceBEq, Int.reduceBNe, Int.reduceEq, Int.reduceLT, Int.reduceLE, Int.reduceToNat, reduceIte, reduceCtorEq, Nat.reduceEqDiff, Nat.reduceAdd, Nat.reduceLT, Nat.reduceLeDiff, Nat.reduceMul, Nat.reduceSub, hE, live_run, live_pan, print_run, print_pan, outPrint, hdec, hok, hpf, hsI, lex_run, lex_pan, hlx, toksV, parse_run, parse_pan, hpr, hlen, eval_run, eval_pan, hev, hq, pure_flat_eql, orPure_eq, flatEq, flat_val, eqKs]
  exact hq.2

end Go.Proofs.YtcdbldakjepjiaaDoor.Ex
