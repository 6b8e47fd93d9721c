/- The parser of package expr: fail, next, put, sign. The parser of package expr: opened, row. The parser of package expr: the levels, operand. The parser of package expr: operand. The parser of package expr: Parse. -/
import Derived.Test.YtcdbldakjepjiaaDoorXa
import Derived.Test.YtcdbldakjepjiaaDoorLA
import Derived.Test.YtcdbldakjepjiaaDoorWs
/-! ## N2 -/
set_option linter.unusedVariables false
set_option linter.unusedSimpArgs false
namespace Go.Proofs.YtcdbldakjepjiaaDoor.Ex
open Go.RowKit

def termR : RowTy Term where
  dec := fun | [.v (.int .i64 k), .v (.int .i64 n), .v (.string s)] => some ⟨k, n, s⟩ | _ => none
  enc := fun t => [.v (.int .i64 t.kind), .v (.int .i64 t.n), .v (.string t.sym)]
  inv := by
    intro c x h
    split at h
    · injection h with h; subst h; rfl
    · cases h
  back := by intro x; rfl

/-- a fault -/
def faultV (e : Int) : Value := .iface 95 (.agg #[.int .i64 e])

/-! fail -/
theorem en_fail (args : Array Value) (w : World) : (callFunc 125 args).run Tryd.prog w = .ok (.enter 125 args) w := by go_simp
def failS : Spec Tryd.prog 125 :=
  mk1 _ _ _ Tryd.func125 rfl en_fail (tInt .i64) ((fun _ => True)) ((fun e => .pan (faultV e))) (by rw [Tryd.ntmps125]; decide) (fun e _ => by
  refine aRun_sound (ctx := []) 4000 ?_
  rw [Tryd.ntmps125, Tryd.results125]
  simp only [Tryd.f125, Option.getD_some, zipT]
  simp only [go_sem, Nat.reduceOr, Nat.reducePow, Nat.reduceDiv, Nat.reduceMod, Nat.reduceBEq, Int.reduceBEq, Int.reduceBNe, Int.reduceEq, Int.reduceLT, Int.reduceLE, Int.reduceToNat, reduceIte, reduceCtorEq, Nat.reduceEqDiff, Nat.reduceAdd, Nat.reduceLT, Nat.reduceLeDiff, Nat.reduceMul, Nat.reduceSub, faultV])
theorem fail_run {id : Nat} {h : Heap} {args : List AV} : (failS).run id h args = runP (args1 (tInt .i64) ((fun _ => True))) ((fun e => .pan (faultV e))) h args := rfl
theorem fail_pan {id : Nat} {h : Heap} {args : List AV} : (failS).pan id h args = panP (args1 (tInt .i64) ((fun _ => True))) ((fun e => .pan (faultV e))) h args := rfl

/-! sign -/
set_option maxHeartbeats 2000000 in
theorem sign_sw (k : Int) (h : 3 ≤ k ∧ k ≤ 14) : SW Tryd.prog ⟨none, 0⟩ Tryd.f77.ntmps (Tryd.f77.body.getD .skip) ⟨0, zipT 0 [(tInt .i64).enc k], []⟩ (outQ Tryd.prog Tryd.f77.results.toList (.ret (sv (signF k)))) := by
  refine aRun_sound (ctx := []) 4000 ?_
  rw [Tryd.ntmps77, Tryd.results77]
  simp only [Tryd.f77, Option.getD_some, zipT]
  have hk : k = 3 ∨ k = 4 ∨ k = 5 ∨ k = 6 ∨ k = 7 ∨ k = 8 ∨ k = 9 ∨ k = 10 ∨ k = 11 ∨ k = 12 ∨ k = 13 ∨ k = 14 := by omega
  rcases hk with rfl | rfl | rfl | rfl | rfl | rfl | rfl | rfl | rfl | rfl | rfl | rfl
  all_goals simp only [go_sem, Nat.reduceOr, Nat.reducePow, Nat.reduceDiv, Nat.reduceMod, Nat.reduceBEq, Int.reduceBEq, Int.reduceBNe, Int.reduceEq, Int.reduceLT, Int.reduceLE, Int.reduceToNat, reduceIte, reduceCtorEq, Nat.reduceEqDiff, Nat.reduceAdd, Nat.reduceLT, Nat.reduceLeDiff, Nat.reduceMul, Nat.reduceSub]
  all_goals rfl

theorem en_sgn (args : Array Value) (w : World) : (callFunc 77 args).run Tryd.prog w = .ok (.enter 77 args) w := by go_simp
def sgnS : Spec Tryd.prog 77 :=
  mk1 _ _ _ Tryd.func77 rfl en_sgn (tInt .i64) ((fun k => 3 ≤ k ∧ k ≤ 14)) ((fun k => .ret (sv (signF k)))) (by rw [Tryd.ntmps77]; decide) (fun k h => sign_sw k h)
theorem sgn_run {id : Nat} {h : Heap} {args : List AV} : (sgnS).run id h args = runP (args1 (tInt .i64) ((fun k => 3 ≤ k ∧ k ≤ 14))) ((fun k => .ret (sv (signF k)))) h args := rfl
theorem sgn_pan {id : Nat} {h : Heap} {args : List AV} : (sgnS).pan id h args = panP (args1 (tInt .i64) ((fun k => 3 ≤ k ∧ k ≤ 14))) ((fun k => .ret (sv (signF k)))) h args := rfl

/-! The parser's blocks: itself, its terms -/
def prsK (l : List Tok) (a : Nat) (o : Int) (n tb : Nat) : Blk := ⟨true, 98, 4, [[.d (.sd 4 (l.map tokR.enc)), .v (.int .i64 a), .v (.int .i64 o), .sl tb 0 n]]⟩
def tmsK (ts : List Term) : Blk := ⟨true, 91, 3, (ts.map termR.enc).map ofDs⟩

def decTermL : List LV → Option Term
  | [.v (.int .i64 k), .v (.int .i64 n), .v (.string s)] => some ⟨k, n, s⟩
  | _ => none
theorem tms_dec (ts : List Term) : decAll decTermL ((ts.map termR.enc).map ofDs) = some ts := by
  rw [List.map_map]
  exact decAll_enc (d := decTermL) (e := ofDs ∘ termR.enc) (fun _ => rfl) ts
theorem tms_inv {rows : List (List LV)} {ts : List Term} (h : decAll decTermL rows = some ts) : rows = (ts.map termR.enc).map ofDs := by
  rw [List.map_map]
  refine decAll_inv (d := decTermL) (e := ofDs ∘ termR.enc) (fun c x hc => ?_) h
  unfold decTermL at hc
  split at hc
  · injection hc with hc; subst hc; rfl
  · cases hc

def decP (h : Heap) : AV → Option (List Nat × List Tok × PS)
  | .s (.l (.p b 0 0)) => match hget h b with
    | some ⟨true, T, 4, [[.d (.sd 4 els), .v (.int .i64 a), .v (.int .i64 o), .sl tb 0 n]]⟩ => match decAllD tokR.dec els, hget h tb with
      | some l, some ⟨true, T2, 3, rows⟩ => match decAll decTermL rows with
        | some ts => if T = 98 ∧ T2 = 91 ∧ 0 ≤ a ∧ n = ts.length ∧ b ≠ tb then some ([b, tb], l, ⟨a.toNat, o, ts⟩) else none
        | none => none
      | _, _ => none
    | _ => none
  | _ => none

theorem decP_ok {h : Heap} {A : AV} {bs : List Nat} {l : List Tok} {s : PS} (hd : decP h A = some (bs, l, s)) :
    ∃ b tb, A = pv b 0 0 ∧ bs = [b, tb] ∧ b ≠ tb ∧ hget h b = some (prsK l s.at_ s.op s.ts.length tb) ∧ hget h tb = some (tmsK s.ts) := by
  unfold decP at hd
  split at hd
  case h_2 => cases hd
  rename_i b
  split at hd
  case h_2 => cases hd
  rename_i T els a o tb n hb
  split at hd
  case h_2 => cases hd
  rename_i l' T2 rows hl ht
  split at hd
  case h_2 => cases hd
  rename_i ts hts
  split at hd
  case isFalse => cases hd
  rename_i hc
  obtain ⟨rfl, rfl, ha, rfl, hne⟩ := hc
  injection hd with hd
  injection hd with e1 hd
  injection hd with e2 e3
  subst e1
  subst e2
  subst e3
  refine ⟨b, tb, rfl, rfl, hne, ?_, ?_⟩
  · rw [hb, prsK, ← decAllD_inv tokR hl]
    simp only [Int.toNat_of_nonneg ha]
  · rw [ht, tmsK, tms_inv hts]

theorem decP_mono {h h' : Heap} (hs : ∀ b k, hget h b = some k → hget h' b = some k) {A : AV} {r : List Nat × List Tok × PS} (hd : decP h A = some r) : decP h' A = some r := by
  unfold decP at hd ⊢
  split at hd
  case h_2 => cases hd
  split at hd
  case h_2 => cases hd
  rename_i hb
  simp only [hs _ _ hb]
  split at hd
  case h_2 => cases hd
  rename_i hl ht
  simp only [hl, hs _ _ ht]
  exact hd

/-- what a part of the parser ends with -/
def outP (l : List Tok) : Except Int (AV × PS) → RO
  | .ok (r, s) => .ret r [some (prsK l s.at_ s.op s.ts.length 1)] [tmsK s.ts]
  | .error e => .pan (faultV e)

theorem outP_ok {l : List Tok} {r : AV} {s : PS} : outP l (.ok (r, s)) = .ret r [some (prsK l s.at_ s.op s.ts.length 1)] [tmsK s.ts] := rfl
theorem outP_error {l : List Tok} {e : Int} : outP l (.error e) = .pan (faultV e) := rfl

/-- the arguments behind the parser: such as hang on no block -/
structure Xs (X : Type) where
  dec : List AV → Option X
  enc : X → List AV
  len : Nat
  enc_len : ∀ x, (enc x).length = len
  ok : ∀ {zs : List AV} {x : X}, dec zs = some x → ∀ {ρ ρ' : Nat → Loc} {al al' : Al} {vals : List Value}, al.M.le al'.M → AsRep ρ al zs vals → AsRep ρ' al' (enc x) vals

def decX {X : Type} (T : Xs X) (q : X → List Tok → PS → Prop) (h : Heap) : List AV → Option (Prop × List Nat × (X × List Tok × PS))
  | A :: zs => match decP h A, T.dec zs with
    | some (bs, l, s), some x => some (q x l s, bs, (x, l, s))
    | _, _ => none
  | [] => none

/-- A part of the parser. -/
def mkX {X : Type} (f : FuncId) (fn : Func) (c : Code) (hf : Tryd.prog.funcs[f]? = some fn) (hb : fn.body = some c)
    (hen : ∀ (args : Array Value) (w : World), (callFunc f args).run Tryd.prog w = .ok (.enter f args) w) (T : Xs X) (q : X → List Tok → PS → Prop) (F : X → List Tok → PS → Except Int (AV × PS)) (hn : T.len + 1 ≤ fn.ntmps)
    (body : ∀ x l s, q x l s → SW Tryd.prog ⟨none, 1⟩ fn.ntmps c ⟨2, zipT 0 (pv 0 0 0 :: T.enc x), zipH 0 [prsK l s.at_ s.op s.ts.length 1, tmsK s.ts]⟩ (outR Tryd.prog fn.results.toList 1 (outP l (F x l s)))) : Spec Tryd.prog f :=
  mkR 1 2 (by decide) f fn c hf hb hen (decX T q) (fun x => pv 0 0 0 :: T.enc x.1) (fun x => [prsK x.2.1 x.2.2.at_ x.2.2.op x.2.2.ts.length 1, tmsK x.2.2.ts]) (fun x => outP x.2.1 (F x.1 x.2.1 x.2.2))
    (by
      intro h h' args r hs hd
      unfold decX at hd ⊢
      split at hd
      · split at hd
        · rename_i h1 h2
          rw [decP_mono hs h1, h2]
          exact hd
        · cases hd
      · cases hd)
    (by
      intro h zs q' bs x hd hq
      unfold decX at hd
      split at hd
      case h_2 => cases hd
      rename_i A zs'
      split at hd
      case h_2 => cases hd
      rename_i bs' l s x' h1 h2
      injection hd with hd
      injection hd with e1 hd
      injection hd with e2 e3
      subst e2
      subst e3
      obtain ⟨b, tb, rfl, rfl, hne, hb1, hb2⟩ := decP_ok h1
      refine ⟨by rw [List.length_cons, T.enc_len]; exact hn, rfl, rfl, by simp [hne], fun d => ⟨?_, ?_⟩⟩
      · intro j b' k hj hk
        match j, hj, hk with
        | 0, hj, hk =>
          simp at hj hk
          subst hj
          subst hk
          exact ⟨rfl, by rw [hb1]; rfl⟩
        | 1, hj, hk =>
          simp at hj hk
          subst hj
          subst hk
          refine ⟨rfl, ?_⟩
          rw [hb2]
          simp only [tmsK, Blk.ren, rows_ren]
      · intro ρ al vals hA
        match vals, hA with
        | v :: vs, ⟨a, r⟩ => exact ⟨a, T.ok (al := al) h2 (Mem.le_refl _) r⟩)
    (by
      intro h zs q' bs x hd hq
      unfold decX at hd
      split at hd
      case h_2 => cases hd
      split at hd
      case h_2 => cases hd
      injection hd with hd
      injection hd with e1 hd
      injection hd with e2 e3
      subst e1
      subst e3
      exact body _ _ _ hq)

def xs0 : Xs Unit where
  dec := fun | [] => some () | _ => none
  enc := fun _ => []
  len := 0
  enc_len := fun _ => rfl
  ok := by
    intro zs x h ρ ρ' al al' vals _ hA
    split at h
    · match vals, hA with
      | [], _ => trivial
    · cases h
def xsTerm : Xs Term where
  dec := fun | [A] => (tAgg termR).dec A | _ => none
  enc := fun t => [(tAgg termR).enc t]
  len := 1
  enc_len := fun _ => rfl
  ok := by
    intro zs x h ρ ρ' al al' vals hM hA
    split at h
    · match vals, hA with
      | [v], ⟨a, _⟩ => exact ⟨((tAgg termR).ok h a).flat hM (by rfl), trivial⟩
    · cases h

/-! next -/
theorem termE (t : Term) : termR.enc t = [.v (.int .i64 t.kind), .v (.int .i64 t.n), .v (.string t.sym)] := rfl
theorem prsK_own {l : List Tok} {a : Nat} {o : Int} {n tb : Nat} : (prsK l a o n tb).own = true := rfl
theorem tmsK_own {ts : List Term} : (tmsK ts).own = true := rfl

/-- the end: the parser's two blocks as they are now -/
theorem leftP {l : List Tok} {s' : PS} {r : AV} {st : St} {tb : Nat} (hr : r.plain = true) (h1 : hget st.h 0 = some (prsK l s'.at_ s'.op s'.ts.length tb)) (h2 : hget st.h tb = some (tmsK s'.ts)) (hn : tb ≠ 0) :
    leftR 1 st (outP l (.ok (r, s'))) (some r) := by
  refine ⟨hr, [some (prsK l s'.at_ s'.op s'.ts.length 1)], [tmsK s'.ts], rfl, rfl, by simp, by simp [prsK], by simp [tmsK], Wk.ren [0, tb] (by intro j hj; have : j = 0 := (by simpa using hj); subst this; rfl) (Nat.le_refl _) (by simpa using fun h => hn h.symm) (fun p hp => by cases hp) ?_⟩
  intro p hp k hk
  simp only [zipO, zipH, List.cons_append, List.nil_append, List.mem_cons, List.not_mem_nil, or_false] at hp
  rcases hp with rfl | rfl
  · simp only [Option.some.injEq] at hk
    subst hk
    simp only [List.getD_eq_getElem?_getD, List.getElem?_cons_zero, Option.getD_some, h1]
    rfl
  · simp only [Option.some.injEq] at hk
    subst hk
    simp only [List.getD_eq_getElem?_getD, List.getElem?_cons_succ, List.getElem?_cons_zero, Option.getD_some, h2]
    simp only [tmsK, Blk.ren, rows_ren]

set_option maxHeartbeats 1000000 in
theorem next_sw (l : List Tok) (s : PS) (h : s.at_ ≤ l.length ∧ l.length ≤ maxLen) : SW Tryd.prog ⟨none, 1⟩ Tryd.f111.ntmps (Tryd.f111.body.getD .skip) ⟨2, zipT 0 [pv 0 0 0], zipH 0 [prsK l s.at_ s.op s.ts.length 1, tmsK s.ts]⟩ (outR Tryd.prog Tryd.f111.results.toList 1 (outP l (.ok (sv (nextF l s), s)))) := by
  refine aRun_sound (ctx := []) 4000 ?_
  rw [Tryd.ntmps111, Tryd.results111]
  simp only [Tryd.f111, Option.getD_some, zipT]
  simp only [go_sem, Nat.reduceOr, Nat.reducePow, Nat.reduceDiv, Nat.reduceMod, Nat.reduceBEq, Int.reduceBEq, Int.reduceBNe, Int.reduceEq, Int.reduceLT, Int.reduceLE, Int.reduceToNat, reduceIte, reduceCtorEq, Nat.reduceEqDiff, Nat.reduceAdd, Nat.reduceLT, Nat.reduceLeDiff, Nat.reduceMul, Nat.reduceSub, prsK, tmsK]
  rcases hl : l[s.at_]? with _ | t
  · have hlt : ¬ (s.at_ : Int) < l.length := by have := List.getElem?_eq_none_iff.1 hl; omega
    refine sw_draw (ctx := []) mixed [] (by kernel_rfl) ?_
    simp only [go_sem, Nat.reduceOr, Nat.reducePow, Nat.reduceDiv, Nat.reduceMod, Nat.reduceBEq, Int.reduceBEq, Int.reduceBNe, Int.reduceEq, Int.reduceLT, Int.reduceLE, Int.reduceToNat, reduceIte, reduceCtorEq, Nat.reduceEqDiff, Nat.reduceAdd, Nat.reduceLT, Nat.reduceLeDiff, Nat.reduceMul, Nat.reduceSub, hlt, List.length_map]
    have e : nextF l s = ⟨#[]⟩ := by unfold nextF; rw [hl]; rfl
    rw [e]
    exact leftP rfl rfl rfl (by decide)
  · have hlt : (s.at_ : Int) < l.length := by have := (List.getElem?_eq_some_iff.1 hl).1; omega
    refine sw_draw (ctx := []) mixed [] (by kernel_rfl) ?_
    simp only [go_sem, Nat.reduceOr, Nat.reducePow, Nat.reduceDiv, Nat.reduceMod, Nat.reduceBEq, Int.reduceBEq, Int.reduceBNe, Int.reduceEq, Int.reduceLT, Int.reduceLE, Int.reduceToNat, reduceIte, reduceCtorEq, Nat.reduceEqDiff, Nat.reduceAdd, Nat.reduceLT, Nat.reduceLeDiff, Nat.reduceMul, Nat.reduceSub, hlt, List.length_map, hl, tokE]
    refine ⟨fun hk => ?_, fun hk => ?_⟩
    · refine sw_draw (ctx := []) mixed [] (by kernel_rfl) ?_
      simp only [go_sem, Nat.reduceOr, Nat.reducePow, Nat.reduceDiv, Nat.reduceMod, Nat.reduceBEq, Int.reduceBEq, Int.reduceBNe, Int.reduceEq, Int.reduceLT, Int.reduceLE, Int.reduceToNat, reduceIte, reduceCtorEq, Nat.reduceEqDiff, Nat.reduceAdd, Nat.reduceLT, Nat.reduceLeDiff, Nat.reduceMul, Nat.reduceSub, hlt, List.length_map, hl, tokE]
      have e : nextF l s = t.text := by unfold nextF; rw [hl]; simp only [if_pos hk]
      rw [e]
      exact leftP rfl rfl rfl (by decide)
    · have e : nextF l s = ⟨#[]⟩ := by unfold nextF; rw [hl]; simp only [if_neg hk]; rfl
      rw [e]
      exact leftP rfl rfl rfl (by decide)

theorem en_next (args : Array Value) (w : World) : (callFunc 111 args).run Tryd.prog w = .ok (.enter 111 args) w := by go_simp
def nextS : Spec Tryd.prog 111 :=
  mkX _ _ _ Tryd.func111 rfl en_next xs0 ((fun _ l s => s.at_ ≤ l.length ∧ l.length ≤ maxLen)) ((fun _ l s => .ok (sv (nextF l s), s))) (by rw [Tryd.ntmps111]; decide) (fun _ l s h => next_sw l s h)
theorem next_run {id : Nat} {h : Heap} {args : List AV} : (nextS).run id h args = runR 1 (decX xs0 ((fun _ l s => s.at_ ≤ l.length ∧ l.length ≤ maxLen))) (fun x => outP x.2.1 (((fun _ l s => .ok (sv (nextF l s), s))) x.1 x.2.1 x.2.2)) id h args := rfl
theorem next_pan {id : Nat} {h : Heap} {args : List AV} : (nextS).pan id h args = panR (decX xs0 ((fun _ l s => s.at_ ≤ l.length ∧ l.length ≤ maxLen))) (fun x => outP x.2.1 (((fun _ l s => .ok (sv (nextF l s), s))) x.1 x.2.1 x.2.2)) h args := rfl

/-! put -/
theorem tms_snoc {ts : List Term} {t : Term} : (ts.map termR.enc).map ofDs ++ [[.v (.int .i64 t.kind), .v (.int .i64 t.n), .v (.string t.sym)]] = ((ts ++ [t]).map termR.enc).map ofDs := by
  rw [List.map_append, List.map_append]; rfl

set_option maxHeartbeats 1000000 in
theorem put_sw (t : Term) (l : List Tok) (s : PS) (h : s.ts.length ≤ 256) : SW Tryd.prog ⟨none, 1⟩ Tryd.f112.ntmps (Tryd.f112.body.getD .skip) ⟨2, zipT 0 [pv 0 0 0, (tAgg termR).enc t], zipH 0 [prsK l s.at_ s.op s.ts.length 1, tmsK s.ts]⟩ (outR Tryd.prog Tryd.f112.results.toList 1 (outP l ((putF t s).map fun s => (unitV, s)))) := by
  refine aRun_sound (ctx := [⟨_, failS⟩]) 4000 ?_
  rw [Tryd.ntmps112, Tryd.results112]
  simp only [Tryd.f112, Option.getD_some, zipT]
  have hb : (s.ts.length + 1) * 32 ≤ 140737488355328 := by omega
  have hm : s.ts.length + 1 ≤ maxLen := by unfold maxLen; omega
  simp only [go_sem, Nat.reduceOr, Nat.reducePow, Nat.reduceDiv, Nat.reduceMod, Nat.reduceBEq, Int.reduceBEq, Int.reduceBNe, Int.reduceEq, Int.reduceLT, Int.reduceLE, Int.reduceToNat, reduceIte, reduceCtorEq, Nat.reduceEqDiff, Nat.reduceAdd, Nat.reduceLT, Nat.reduceLeDiff, Nat.reduceMul, Nat.reduceSub, prsK, tmsK, termE]
  refine sw_draw (ctx := []) mixed [7, 10] (by kernel_rfl) ?_
  simp only [go_sem, Nat.reduceOr, Nat.reducePow, Nat.reduceDiv, Nat.reduceMod, Nat.reduceBEq, Int.reduceBEq, Int.reduceBNe, Int.reduceEq, Int.reduceLT, Int.reduceLE, Int.reduceToNat, reduceIte, reduceCtorEq, Nat.reduceEqDiff, Nat.reduceAdd, Nat.reduceLT, Nat.reduceLeDiff, Nat.reduceMul, Nat.reduceSub, hb, hm, tms_snoc, fail_run, fail_pan]
  refine ⟨fun hc => ?_, fun hc => ?_⟩
  · rw [putF, if_pos (by omega)]; rfl
  · rw [putF, if_neg (by omega)]
    refine leftP (s' := { s with ts := s.ts ++ [t] }) (tb := 130) rfl ?_ rfl (by decide)
    rw [List.length_append]; rfl

theorem en_put (args : Array Value) (w : World) : (callFunc 112 args).run Tryd.prog w = .ok (.enter 112 args) w := by go_simp
def putS : Spec Tryd.prog 112 :=
  mkX _ _ _ Tryd.func112 rfl en_put xsTerm ((fun _ _ s => s.ts.length ≤ 256)) ((fun t _ s => (putF t s).map fun s => (unitV, s))) (by rw [Tryd.ntmps112]; decide) (fun t l s h => put_sw t l s h)
theorem put_run {id : Nat} {h : Heap} {args : List AV} : (putS).run id h args = runR 1 (decX xsTerm ((fun _ _ s => s.ts.length ≤ 256))) (fun x => outP x.2.1 (((fun t _ s => (putF t s).map fun s => (unitV, s))) x.1 x.2.1 x.2.2)) id h args := rfl
theorem put_pan {id : Nat} {h : Heap} {args : List AV} : (putS).pan id h args = panR (decX xsTerm ((fun _ _ s => s.ts.length ≤ 256))) (fun x => outP x.2.1 (((fun t _ s => (putF t s).map fun s => (unitV, s))) x.1 x.2.1 x.2.2)) h args := rfl

end Go.Proofs.YtcdbldakjepjiaaDoor.Ex

/-! ## N3 -/
namespace Go.Proofs.YtcdbldakjepjiaaDoor.Ex
open Go.RowKit

/-- what a part of the parser that has no result does -/
def outU (r : PR) : Except Int (AV × PS) := r.map fun s => (unitV, s)
theorem outU_ok {s : PS} : outU (.ok s) = .ok (unitV, s) := rfl
theorem outU_error {e : Int} : outU (.error e) = .error e := rfl

/-- so many tokens, at most N left -/
def qP (N : Nat) : Unit → List Tok → PS → Prop := fun _ l s => POk l N s ∧ l.length ≤ 1000000

/-- A part of the parser that reads where at most N tokens are left. -/
structure Part (N : Nat) where
  f : FuncId
  F : List Tok → PS → PR
  spec : Spec Tryd.prog f
  run_eq : ∀ (id : Nat) (h : Heap) (args : List AV), spec.run id h args = runR 1 (decX xs0 (qP N)) (fun x => outP x.2.1 (outU (F x.2.1 x.2.2))) id h args
  pan_eq : ∀ (id : Nat) (h : Heap) (args : List AV), spec.pan id h args = panR (decX xs0 (qP N)) (fun x => outP x.2.1 (outU (F x.2.1 x.2.2))) h args
  goes : ∀ l, Goes l N (F l)
  ne : f ≠ 125 ∧ f ≠ 111 ∧ f ≠ 112 ∧ f ≠ 77

def xsFn : Xs FuncId where
  dec := fun | [A] => tFn.dec A | _ => none
  enc := fun g => [tFn.enc g]
  len := 1
  enc_len := fun _ => rfl
  ok := by
    intro zs x h ρ ρ' al al' vals hM hA
    split at h
    · match vals, hA with
      | [v], ⟨a, _⟩ => exact ⟨(tFn.ok h a).flat hM (by rfl), trivial⟩
    · cases h

theorem wrap_at {s : PS} {l : List Tok} (h1 : s.at_ ≤ l.length) (h2 : l.length ≤ 1000000) : IntKind.i64.wrap ((s.at_ : Int) + 1) = ((s.at_ + 1 : Nat) : Int) := by rw [IntKind.wrap_i64]; omega

set_option maxHeartbeats 1000000 in
theorem opened_sw {N : Nat} (p : Part N) (l : List Tok) (s : PS) (h : POk l (N + 1) s ∧ s.at_ < l.length ∧ l.length ≤ 1000000) :
    SW Tryd.prog ⟨none, 1⟩ Tryd.f145.ntmps (Tryd.f145.body.getD .skip) ⟨2, zipT 0 [pv 0 0 0, tFn.enc p.f], zipH 0 [prsK l s.at_ s.op s.ts.length 1, tmsK s.ts]⟩ (outR Tryd.prog Tryd.f145.results.toList 1 (outP l (outU (openedF (p.F l) s)))) := by
  obtain ⟨hok, hlt, hlen⟩ := h
  obtain ⟨n1, n2, n3, n4⟩ := p.ne
  refine aRun_sound (ctx := [⟨_, p.spec⟩, ⟨_, failS⟩]) 4000 ?_
  rw [Tryd.ntmps145, Tryd.results145]
  simp only [Tryd.f145, Option.getD_some, zipT]
  have e1 := wrap_at hok.le hlen
  have o0 := hok.op0
  have o1 := hok.op1
  have e2 : IntKind.i64.wrap (s.op + 1) = s.op + 1 := by rw [IntKind.wrap_i64]; omega
  by_cases hc : 64 < s.op + 1
  · simp only [go_sem, Nat.reduceOr, Nat.reducePow, Nat.reduceDiv, Nat.reduceMod, Nat.reduceBEq, Int.reduceBEq, Int.reduceBNe, Int.reduceEq, Int.reduceLT, Int.reduceLE, Int.reduceToNat, reduceIte, reduceCtorEq, Nat.reduceEqDiff, Nat.reduceAdd, Nat.reduceLT, Nat.reduceLeDiff, Nat.reduceMul, Nat.reduceSub, prsK, tmsK, e1, e2, hc, fail_run, fail_pan, n1]
    rw [openedF, if_pos hc]; rfl
  · have hp : qP N () l ⟨s.at_ + 1, s.op + 1, s.ts⟩ := ⟨⟨by show s.at_ + 1 ≤ _; omega, by have := hok.rem; show _ ≤ s.at_ + 1 + N; omega, by show 0 ≤ s.op + 1; omega, by show s.op + 1 ≤ 64; omega, hok.ts⟩, hlen⟩
    rcases hr : p.F l ⟨s.at_ + 1, s.op + 1, s.ts⟩ with e | s'
    · simp only [go_sem, Nat.reduceOr, Nat.reducePow, Nat.reduceDiv, Nat.reduceMod, Nat.reduceBEq, Int.reduceBEq, Int.reduceBNe, Int.reduceEq, Int.reduceLT, Int.reduceLE, Int.reduceToNat, reduceIte, reduceCtorEq, Nat.reduceEqDiff, Nat.reduceAdd, Nat.reduceLT, Nat.reduceLeDiff, Nat.reduceMul, Nat.reduceSub, prsK, tmsK, e1, e2, hc, fail_run, fail_pan, n1, p.run_eq, p.pan_eq, decX, decP, xs0, tms_dec, hr, hp, outU_error, outU_ok, outP_ok, outP_error]
      rw [openedF, if_neg hc, hr]; rfl
    · have hg := p.goes l _ _ hp.1 hr
      simp only at hg
      have e3 : IntKind.i64.wrap (s'.op - 1) = s'.op - 1 := by rw [IntKind.wrap_i64]; omega
      simp only [go_sem, Nat.reduceOr, Nat.reducePow, Nat.reduceDiv, Nat.reduceMod, Nat.reduceBEq, Int.reduceBEq, Int.reduceBNe, Int.reduceEq, Int.reduceLT, Int.reduceLE, Int.reduceToNat, reduceIte, reduceCtorEq, Nat.reduceEqDiff, Nat.reduceAdd, Nat.reduceLT, Nat.reduceLeDiff, Nat.reduceMul, Nat.reduceSub, prsK, tmsK, e1, e2, hc, fail_run, fail_pan, n1, p.run_eq, p.pan_eq, decX, decP, xs0, tms_dec, hr, hp, outU_error, outU_ok, outP_ok, outP_error, e3]
      rw [openedF, if_neg hc, hr]
      exact leftP (s' := { s' with op := s'.op - 1 }) (tb := 370) rfl rfl rfl (by decide)

theorem en_opened (args : Array Value) (w : World) : (callFunc 145 args).run Tryd.prog w = .ok (.enter 145 args) w := by go_simp

/-- 'opened' with either of two parts to read -/
def openedS {N : Nat} (p q : Part N) : Spec Tryd.prog 145 :=
  mkX _ _ _ Tryd.func145 rfl en_opened xsFn (fun g l s => (g = p.f ∨ g = q.f) ∧ POk l (N + 1) s ∧ s.at_ < l.length ∧ l.length ≤ 1000000)
    (fun g l s => outU (openedF (if g = p.f then p.F l else q.F l) s)) (by rw [Tryd.ntmps145]; decide)
    (fun g l s h => by
      by_cases hg : g = p.f
      · subst hg; rw [if_pos rfl]; exact opened_sw p l s h.2
      · rw [if_neg hg]
        obtain rfl : g = q.f := h.1.resolve_left hg
        exact opened_sw q l s h.2)
theorem opened_run {N : Nat} {p q : Part N} {id : Nat} {h : Heap} {args : List AV} : (openedS p q).run id h args = runR 1 (decX xsFn (fun g l s => (g = p.f ∨ g = q.f) ∧ POk l (N + 1) s ∧ s.at_ < l.length ∧ l.length ≤ 1000000)) (fun x => outP x.2.1 (outU (openedF (if x.1 = p.f then p.F x.2.1 else q.F x.2.1) x.2.2))) id h args := rfl
theorem opened_pan {N : Nat} {p q : Part N} {id : Nat} {h : Heap} {args : List AV} : (openedS p q).pan id h args = panR (decX xsFn (fun g l s => (g = p.f ∨ g = q.f) ∧ POk l (N + 1) s ∧ s.at_ < l.length ∧ l.length ≤ 1000000)) (fun x => outP x.2.1 (outU (openedF (if x.1 = p.f then p.F x.2.1 else q.F x.2.1) x.2.2))) h args := rfl

/-! row -/
theorem xsTerm_dec {k n : Int} {z : ByteArray} : xsTerm.dec [.s (.agg [.v (.int .i64 k), .v (.int .i64 n), .v (.string z)])] = some ⟨k, n, z⟩ := rfl
theorem wkP {st : St} {l : List Tok} {q : PS} {X : Tmps} {tb : Nat} (h1 : hget st.h 0 = some (prsK l q.at_ q.op q.ts.length tb)) (h2 : hget st.h tb = some (tmsK q.ts)) (hn : tb ≠ 0) (hx : 2 ≤ st.nx) (hX : X.map (fun p => tget st.t p.1) = X.map fun p => p.2.ren fun b => [0, tb].getD b st.nx) : Wk ⟨none, 1⟩ st ⟨2, X, zipH 0 [prsK l q.at_ q.op q.ts.length 1, tmsK q.ts]⟩ := by
  refine Wk.ren [0, tb] (by intro j hj; have : j = 0 := (by simpa using hj); subst this; rfl) (Nat.le_refl _) (by simpa using fun h => hn h.symm) (fun p hp => List.map_inj_left.1 hX p hp) ?_
  intro p hp k hk
  simp only [zipH, List.mem_cons, List.not_mem_nil, or_false] at hp
  rcases hp with rfl | rfl
  · simp only [Option.some.injEq] at hk
    subst hk
    simp only [List.getD_eq_getElem?_getD, List.getElem?_cons_zero, Option.getD_some, h1]
    rfl
  · simp only [Option.some.injEq] at hk
    subst hk
    simp only [List.getD_eq_getElem?_getD, List.getElem?_cons_succ, List.getElem?_cons_zero, Option.getD_some, h2]
    simp only [tmsK, Blk.ren, rows_ren]

theorem foundF_snoc {s : ByteArray} : ∀ {a : List Int} {k f : Int}, foundF s (a ++ [k]) f = if s ≠ emp ∧ s = signF k then k else foundF s a f
  | [], k, f => by rw [List.nil_append, foundF, foundF, foundF]
  | x :: a, k, f => by rw [List.cons_append, foundF, foundF_snoc, foundF]

theorem rowLoop_eq {l : List Tok} {read : PS → PR} {kinds : List Int} {q : PS} : ∀ {m : Nat}, l.length ≤ q.at_ + m → rowLoop l read kinds m q =
    if foundF (nextF l q) kinds 0 = 0 then .ok q else
    match read ⟨q.at_ + 1, q.op, q.ts⟩ with
    | .error e => .error e
    | .ok s' => match putF ⟨foundF (nextF l q) kinds 0, 0, emp⟩ s' with
      | .error e => .error e
      | .ok s'' => rowLoop l read kinds (m - 1) s''
  | 0, h => by
    have : foundF (nextF l q) kinds 0 = 0 := Classical.byContradiction fun hc => by have := nextF_lt (foundF_ne hc); omega
    rw [if_pos this, rowLoop]
  | m + 1, h => by rw [rowLoop]; rfl

set_option maxHeartbeats 2000000 in
theorem row_sw {N : Nat} (p : Part N) (kinds : List Int) (hk : ∀ k ∈ kinds, 3 ≤ k ∧ k ≤ 14) (hk2 : kinds.length ≤ 10) (l : List Tok) (s : PS) (h : qP N () l s) :
    SW Tryd.prog ⟨none, 1⟩ Tryd.f92.ntmps (Tryd.f92.body.getD .skip) ⟨2, zipT 0 [pv 0 0 0, tFn.enc p.f, (tSl 1 (rInt .i64)).enc kinds], zipH 0 [prsK l s.at_ s.op s.ts.length 1, tmsK s.ts]⟩ (outR Tryd.prog Tryd.f92.results.toList 1 (outP l (outU (rowF l (p.F l) kinds s)))) := by
  obtain ⟨hok, hlen⟩ := h
  obtain ⟨n1, n2, n3, n4⟩ := p.ne
  refine aRun_sound (ctx := [⟨_, p.spec⟩]) 4000 ?_
  rw [Tryd.ntmps92, Tryd.results92]
  simp only [Tryd.f92, Option.getD_some, zipT]
  have hq : qP N () l s := ⟨hok, hlen⟩
  rcases hr : p.F l s with e | s'
  · simp only [go_sem, Nat.reduceOr, Nat.reducePow, Nat.reduceDiv, Nat.reduceMod, Nat.reduceBEq, Int.reduceBEq, Int.reduceBNe, Int.reduceEq, Int.reduceLT, Int.reduceLE, Int.reduceToNat, reduceIte, reduceCtorEq, Nat.reduceEqDiff, Nat.reduceAdd, Nat.reduceLT, Nat.reduceLeDiff, Nat.reduceMul, Nat.reduceSub, prsK, tmsK, p.run_eq, p.pan_eq, decX, decP, xs0, tms_dec, hr, hq, outU_error, outU_ok, outP_ok, outP_error]
    rw [rowF, hr]; rfl
  · have hg := p.goes l _ _ hok hr
    simp only [go_sem, Nat.reduceOr, Nat.reducePow, Nat.reduceDiv, Nat.reduceMod, Nat.reduceBEq, Int.reduceBEq, Int.reduceBNe, Int.reduceEq, Int.reduceLT, Int.reduceLE, Int.reduceToNat, reduceIte, reduceCtorEq, Nat.reduceEqDiff, Nat.reduceAdd, Nat.reduceLT, Nat.reduceLeDiff, Nat.reduceMul, Nat.reduceSub, prsK, tmsK, p.run_eq, p.pan_eq, decX, decP, xs0, tms_dec, hr, hq, outU_error, outU_ok, outP_ok, outP_error]
    refine sw_loop (ι := Nat × PS) (fun i => l.length ≤ i.2.at_ + i.1 ∧ POk l N i.2 ∧ rowLoop l (p.F l) kinds i.1 i.2 = rowF l (p.F l) kinds s)
      (fun i => ⟨2, zipT 0 [pv 0 0 0, tFn.enc p.f, (tSl 1 (rInt .i64)).enc kinds], zipH 0 [prsK l i.2.at_ i.2.op i.2.ts.length 1, tmsK i.2.ts]⟩) (fun i => i.1) (l.length, s')
      ⟨by show l.length ≤ s'.at_ + l.length; omega, ⟨by show s'.at_ ≤ _; omega, by have := hok.rem; show _ ≤ s'.at_ + N; omega, by show 0 ≤ s'.op; rw [hg.2.2.1]; exact hok.op0, by show s'.op ≤ 64; rw [hg.2.2.1]; exact hok.op1, hg.2.2.2⟩, by rw [rowF, hr]⟩
      (wkP (tb := 34) rfl rfl (by decide) (by simp) rfl) ?_
    · rintro ⟨m, q⟩ ⟨hm, hqk, hR⟩
      simp only at hm hqk hR
      refine aRun_sound (ctx := [⟨_, p.spec⟩, ⟨_, nextS⟩, ⟨_, sgnS⟩, ⟨_, putS⟩]) 4000 ?_
      simp only [go_sem, Nat.reduceOr, Nat.reducePow, Nat.reduceDiv, Nat.reduceMod, Nat.reduceBEq, Int.reduceBEq, Int.reduceBNe, Int.reduceEq, Int.reduceLT, Int.reduceLE, Int.reduceToNat, reduceIte, reduceCtorEq, Nat.reduceEqDiff, Nat.reduceAdd, Nat.reduceLT, Nat.reduceLeDiff, Nat.reduceMul, Nat.reduceSub, prsK, tmsK]
      refine sw_loop (ι := Nat) (fun j => j ≤ kinds.length)
        (fun j => ⟨2, [(0, pv 0 0 0), (1, tFn.enc p.f), (2, (tSl 1 (rInt .i64)).enc kinds), (6, iv (foundF (nextF l q) (kinds.take j) 0)), (13, (tSl 1 (rInt .i64)).enc kinds), (14, iv kinds.length), (15, iv j)], zipH 0 [prsK l q.at_ q.op q.ts.length 1, tmsK q.ts]⟩) (fun j => kinds.length - j) 0
        (Nat.zero_le _) (wkP (tb := 1) rfl rfl (by decide) (by simp) rfl) ?_
      · intro j hj
        refine aRun_sound (ctx := [⟨_, p.spec⟩, ⟨_, nextS⟩, ⟨_, sgnS⟩, ⟨_, putS⟩]) 4000 ?_
        rcases Nat.lt_or_ge j kinds.length with hlt | hge
        · obtain ⟨k, hkj⟩ : ∃ k, kinds[j]? = some k := ⟨_, List.getElem?_eq_getElem hlt⟩
          have hltI : (j : Int) < kinds.length := by omega
          have ej : IntKind.i64.wrap ((j : Int) + 1) = ((j + 1 : Nat) : Int) := by rw [IntKind.wrap_i64]; omega
          have hk3 := hk k (List.mem_of_getElem? hkj)
          have hnx : s.at_ ≤ l.length := hok.le
          have hnm : l.length ≤ maxLen := by unfold maxLen; omega
          have hqn := hqk.le
          simp only [go_sem, Nat.reduceOr, Nat.reducePow, Nat.reduceDiv, Nat.reduceMod, Nat.reduceBEq, Int.reduceBEq, Int.reduceBNe, Int.reduceEq, Int.reduceLT, Int.reduceLE, Int.reduceToNat, reduceIte, reduceCtorEq, Nat.reduceEqDiff, Nat.reduceAdd, Nat.reduceLT, Nat.reduceLeDiff, Nat.reduceMul, Nat.reduceSub, prsK, tmsK, hltI, hkj, next_run, next_pan, sgn_run, sgn_pan, n1, n2, n3, n4, decX, decP, xs0, tms_dec, hqn, hnm, outP_ok, outP_error, ej, hk3]
          have ef : foundF (nextF l q) (kinds.take (j + 1)) 0 = if nextF l q ≠ emp ∧ nextF l q = signF k then k else foundF (nextF l q) (kinds.take j) 0 := by
            rw [List.take_add_one, hkj]; exact foundF_snoc
          refine ⟨fun h1 => ?_, fun h1 => ⟨fun h2 => ?_, fun h2 => ?_⟩⟩
          · rw [if_neg (fun h => h.1 h1)] at ef
            exact ⟨j + 1, hlt, by omega, wkP (q := q) (tb := 82) rfl rfl (by decide) (by simp) (by rw [ef]; rfl)⟩
          · rw [if_pos ⟨h1, h2⟩] at ef
            exact ⟨j + 1, hlt, by omega, wkP (q := q) (tb := 82) rfl rfl (by decide) (by simp) (by rw [ef]; rfl)⟩
          · rw [if_neg (fun h => h2 h.2)] at ef
            exact ⟨j + 1, hlt, by omega, wkP (q := q) (tb := 82) rfl rfl (by decide) (by simp) (by rw [ef]; rfl)⟩
        · obtain rfl : j = kinds.length := by omega
          rw [← hR, rowLoop_eq hm]
          simp only [List.take_length]
          by_cases hf : foundF (nextF l q) kinds 0 = 0
          · simp only [go_sem, Nat.reduceOr, Nat.reducePow, Nat.reduceDiv, Nat.reduceMod, Nat.reduceBEq, Int.reduceBEq, Int.reduceBNe, Int.reduceEq, Int.reduceLT, Int.reduceLE, Int.reduceToNat, reduceIte, reduceCtorEq, Nat.reduceEqDiff, Nat.reduceAdd, Nat.reduceLT, Nat.reduceLeDiff, Nat.reduceMul, Nat.reduceSub, prsK, tmsK, Int.lt_irrefl, hf]
            exact leftP (s' := q) (tb := 1) rfl rfl rfl (by decide)
          · have hlt := nextF_lt (foundF_ne hf)
            have e1 : IntKind.i64.wrap ((q.at_ : Int) + 1) = ((q.at_ + 1 : Nat) : Int) := by rw [IntKind.wrap_i64]; omega
            have hq1 : qP N () l ⟨q.at_ + 1, q.op, q.ts⟩ := ⟨⟨by show q.at_ + 1 ≤ _; omega, by have := hqk.rem; show _ ≤ q.at_ + 1 + N; omega, hqk.op0, hqk.op1, hqk.ts⟩, hlen⟩
            rcases hr2 : p.F l ⟨q.at_ + 1, q.op, q.ts⟩ with e | q'
            · simp only [go_sem, Nat.reduceOr, Nat.reducePow, Nat.reduceDiv, Nat.reduceMod, Nat.reduceBEq, Int.reduceBEq, Int.reduceBNe, Int.reduceEq, Int.reduceLT, Int.reduceLE, Int.reduceToNat, reduceIte, reduceCtorEq, Nat.reduceEqDiff, Nat.reduceAdd, Nat.reduceLT, Nat.reduceLeDiff, Nat.reduceMul, Nat.reduceSub, prsK, tmsK, Int.lt_irrefl, hf, e1, n1, n2, n3, n4, p.run_eq, p.pan_eq, decX, decP, xs0, tms_dec, hq1, hr2, outU_error, outU_ok, outP_ok, outP_error, roundQ_panic, afterQ_panic]
            · have hg2 := p.goes l _ _ hq1.1 hr2
              simp only at hg2
              have h256 := hg2.2.2.2
              rcases hp : putF ⟨foundF (nextF l q) kinds 0, 0, ⟨#[]⟩⟩ q' with e | q''
              · have hp' : putF ⟨foundF (nextF l q) kinds 0, 0, emp⟩ q' = .error e := hp
                simp only [go_sem, Nat.reduceOr, Nat.reducePow, Nat.reduceDiv, Nat.reduceMod, Nat.reduceBEq, Int.reduceBEq, Int.reduceBNe, Int.reduceEq, Int.reduceLT, Int.reduceLE, Int.reduceToNat, reduceIte, reduceCtorEq, Nat.reduceEqDiff, Nat.reduceAdd, Nat.reduceLT, Nat.reduceLeDiff, Nat.reduceMul, Nat.reduceSub, prsK, tmsK, Int.lt_irrefl, hf, e1, n1, n2, n3, n4, p.run_eq, p.pan_eq, decX, decP, xs0, tms_dec, hq1, hr2, outU_error, outU_ok, outP_ok, outP_error, put_run, put_pan, xsTerm_dec, h256, hp, hp', Except.map, roundQ_panic, afterQ_panic]
              · have hp' : putF ⟨foundF (nextF l q) kinds 0, 0, emp⟩ q' = .ok q'' := hp
                simp only [go_sem, Nat.reduceOr, Nat.reducePow, Nat.reduceDiv, Nat.reduceMod, Nat.reduceBEq, Int.reduceBEq, Int.reduceBNe, Int.reduceEq, Int.reduceLT, Int.reduceLE, Int.reduceToNat, reduceIte, reduceCtorEq, Nat.reduceEqDiff, Nat.reduceAdd, Nat.reduceLT, Nat.reduceLeDiff, Nat.reduceMul, Nat.reduceSub, prsK, tmsK, Int.lt_irrefl, hf, e1, n1, n2, n3, n4, p.run_eq, p.pan_eq, decX, decP, xs0, tms_dec, hq1, hr2, outU_error, outU_ok, outP_ok, outP_error, put_run, put_pan, xsTerm_dec, h256, hp, hp', Except.map]
                obtain ⟨e3, e4⟩ := putF_ok hp
                subst e3
                refine ⟨(m - 1, { q' with ts := q'.ts ++ [⟨foundF (nextF l q) kinds 0, 0, ⟨#[]⟩⟩] }), ⟨?_, ⟨?_, ?_, ?_, ?_, ?_⟩, rfl⟩, ?_, wkP (tb := 274) rfl rfl (by decide) (by simp) rfl⟩
                · show l.length ≤ q'.at_ + (m - 1); omega
                · show q'.at_ ≤ l.length; exact hg2.2.1
                · have := hqk.rem; show l.length ≤ q'.at_ + N; omega
                · show 0 ≤ q'.op; rw [hg2.2.2.1]; exact hqk.op0
                · show q'.op ≤ 64; rw [hg2.2.2.1]; exact hqk.op1
                · show (q'.ts ++ [_]).length ≤ 256; rw [List.length_append]; exact e4
                · show m - 1 < m; omega

/-! row, with the block of its operators -/
def kindsK (ks : List Int) : Blk := ⟨true, 3, 1, (ks.map (rInt .i64).enc).map ofDs⟩
def decIntL : List LV → Option Int
  | [.v (.int .i64 k)] => some k
  | _ => none
theorem ints_inv {rows : List (List LV)} {ks : List Int} (h : decAll decIntL rows = some ks) : rows = (ks.map (rInt .i64).enc).map ofDs := by
  rw [List.map_map]
  refine decAll_inv (d := decIntL) (e := ofDs ∘ (rInt .i64).enc) (fun c x hc => ?_) h
  unfold decIntL at hc
  split at hc
  · injection hc with hc; subst hc; rfl
  · cases hc

theorem en_row (args : Array Value) (w : World) : (callFunc 92 args).run Tryd.prog w = .ok (.enter 92 args) w := by go_simp

def decRow (N : Nat) (g : FuncId) (h : Heap) : List AV → Option (Prop × List Nat × (List Int × List Tok × PS))
  | [A, F, .s (.l (.sl c 0 n))] => match decP h A, tFn.dec F, hget h c with
    | some (bs, l, s), some g', some ⟨true, T, 1, rows⟩ => match decAll decIntL rows with
      | some ks => if g' = g ∧ T = 3 ∧ n = ks.length ∧ c ∉ bs then some (((∀ k ∈ ks, 3 ≤ k ∧ k ≤ 14) ∧ ks.length ≤ 10) ∧ qP N () l s, bs ++ [c], (ks, l, s)) else none
      | none => none
    | _, _, _ => none
  | _ => none

theorem decRow_ok {N : Nat} {g : FuncId} {h : Heap} {zs : List AV} {q : Prop} {bs : List Nat} {ks : List Int} {l : List Tok} {s : PS} (hd : decRow N g h zs = some (q, bs, (ks, l, s))) :
    ∃ b tb c F, zs = [pv b 0 0, F, .s (.l (.sl c 0 ks.length))] ∧ tFn.dec F = some g ∧ bs = [b, tb, c] ∧ b ≠ tb ∧ c ≠ b ∧ c ≠ tb ∧ hget h b = some (prsK l s.at_ s.op s.ts.length tb) ∧ hget h tb = some (tmsK s.ts) ∧ hget h c = some (kindsK ks) ∧
      q = (((∀ k ∈ ks, 3 ≤ k ∧ k ≤ 14) ∧ ks.length ≤ 10) ∧ qP N () l s) := by
  unfold decRow at hd
  split at hd
  case h_2 => cases hd
  rename_i A F c n
  split at hd
  case h_2 => cases hd
  rename_i bs' l' s' g' T rows h1 h2 h3
  split at hd
  case h_2 => cases hd
  rename_i ks' h4
  split at hd
  case isFalse => cases hd
  rename_i hc
  obtain ⟨rfl, rfl, rfl, hm⟩ := hc
  injection hd with hd
  injection hd with e1 hd
  injection hd with e2 hd
  injection hd with e3 hd
  injection hd with e4 e5
  subst e3
  subst e4
  subst e5
  obtain ⟨b, tb, rfl, rfl, hne, hb1, hb2⟩ := decP_ok h1
  simp only [List.mem_cons, List.not_mem_nil, or_false, not_or] at hm
  exact ⟨b, tb, c, F, rfl, h2, e2.symm, hne, hm.1, hm.2, hb1, hb2, by rw [h3, kindsK, ints_inv h4], e1.symm⟩

theorem decRow_mono {N : Nat} {g : FuncId} {h h' : Heap} (hs : ∀ b k, hget h b = some k → hget h' b = some k) {zs : List AV} {r : Prop × List Nat × (List Int × List Tok × PS)} (hd : decRow N g h zs = some r) : decRow N g h' zs = some r := by
  unfold decRow at hd ⊢
  split at hd
  case h_2 => cases hd
  split at hd
  case h_2 => cases hd
  rename_i h1 h2 h3
  simp only [decP_mono hs h1, h2, hs _ _ h3]
  exact hd

theorem row_sw2 {N : Nat} (p : Part N) (ks : List Int) (hk : (∀ k ∈ ks, 3 ≤ k ∧ k ≤ 14) ∧ ks.length ≤ 10) (l : List Tok) (s : PS) (h : qP N () l s) :
    SW Tryd.prog ⟨none, 1⟩ Tryd.f92.ntmps (Tryd.f92.body.getD .skip) ⟨3, zipT 0 [pv 0 0 0, tFn.enc p.f, .s (.l (.sl 2 0 ks.length))], zipH 0 [prsK l s.at_ s.op s.ts.length 1, tmsK s.ts, kindsK ks]⟩ (outR Tryd.prog Tryd.f92.results.toList 1 (outP l (outU (rowF l (p.F l) ks s)))) := by
  have e : AV.toD (zipH 0 [prsK l s.at_ s.op s.ts.length 1, tmsK s.ts, kindsK ks]) 4 (.s (.l (.sl 2 0 ks.length))) = some (0 + ks.length ≤ (kindsK ks).els.length ∧ True, [2], (tSl 1 (rInt .i64)).enc ks) := by
    have e2 : mapT (mapT (LV.toD (zipH 0 [prsK l s.at_ s.op s.ts.length 1, tmsK s.ts, kindsK ks]) 3)) (((kindsK ks).els.drop 0).take ks.length) = some (True, [], ks.map (rInt .i64).enc) := by
      rw [List.drop_zero, List.take_of_length_le (by simp [kindsK])]
      exact rows_ofDs
    simp only [AV.toD, SV.toD, LV.toD]
    rw [show hget (zipH 0 [prsK l s.at_ s.op s.ts.length 1, tmsK s.ts, kindsK ks]) 2 = some (kindsK ks) from rfl]
    simp only [e2, show (kindsK ks).own = true from rfl, if_true]
    rfl
  refine SW.wk (SW.wk (row_sw p ks hk.1 hk.2 l s h) (wkP (tb := 1) ?_ ?_ (by decide) ?_ ?_)) (Wk.frz 2 e ⟨by simp [kindsK], trivial⟩)
  · rfl
  · rfl
  · show 2 ≤ 3; decide
  · rfl

/-- 'row' with a part to read -/
def rowS {N : Nat} (p : Part N) : Spec Tryd.prog 92 :=
  mkR 1 3 (by decide) _ _ _ Tryd.func92 rfl en_row (decRow N p.f) (fun x => [pv 0 0 0, tFn.enc p.f, .s (.l (.sl 2 0 x.1.length))]) (fun x => [prsK x.2.1 x.2.2.at_ x.2.2.op x.2.2.ts.length 1, tmsK x.2.2.ts, kindsK x.1])
    (fun x => outP x.2.1 (outU (rowF x.2.1 (p.F x.2.1) x.1 x.2.2))) (fun hs hd => decRow_mono hs hd)
    (by
      intro h zs q bs x hd hq
      obtain ⟨ks, l, s⟩ := x
      obtain ⟨b, tb, c, F, rfl, hF, rfl, n1, n2, n3, h1, h2, h3, rfl⟩ := decRow_ok hd
      refine ⟨by rw [Tryd.ntmps92]; show 3 ≤ 47; decide, rfl, rfl, by simp [n1, Ne.symm n2, Ne.symm n3], fun d => ⟨?_, ?_⟩⟩
      · intro j b' k hj hk
        match j, hj, hk with
        | 0, hj, hk =>
          simp at hj hk
          subst hj
          subst hk
          exact ⟨rfl, by rw [h1]; rfl⟩
        | 1, hj, hk =>
          simp at hj hk
          subst hj
          subst hk
          refine ⟨rfl, ?_⟩
          rw [h2]
          simp only [tmsK, Blk.ren, rows_ren]
        | 2, hj, hk =>
          simp at hj hk
          subst hj
          subst hk
          refine ⟨rfl, ?_⟩
          rw [h3]
          simp only [kindsK, Blk.ren, rows_ren]
      · intro ρ al vals hA
        match vals, hA with
        | [v, v2, v3], ⟨a, a2, a3, _⟩ => exact ⟨a, (show v2 = _ from tFn.ok hF a2), a3, trivial⟩)
    (by
      intro h zs q bs x hd hq
      obtain ⟨ks, l, s⟩ := x
      obtain ⟨b, tb, c, F, rfl, hF, rfl, n1, n2, n3, h1, h2, h3, rfl⟩ := decRow_ok hd
      exact row_sw2 p ks hq.1 l s hq.2)
theorem row_run {N : Nat} {p : Part N} {id : Nat} {h : Heap} {args : List AV} : (rowS p).run id h args = runR 1 (decRow N p.f) (fun x => outP x.2.1 (outU (rowF x.2.1 (p.F x.2.1) x.1 x.2.2))) id h args := rfl
theorem row_pan {N : Nat} {p : Part N} {id : Nat} {h : Heap} {args : List AV} : (rowS p).pan id h args = panR (decRow N p.f) (fun x => outP x.2.1 (outU (rowF x.2.1 (p.F x.2.1) x.1 x.2.2))) h args := rfl

end Go.Proofs.YtcdbldakjepjiaaDoor.Ex

/-! ## N4 -/
namespace Go.Proofs.YtcdbldakjepjiaaDoor.Ex
open Go.RowKit

theorem decInts (ks : List Int) : decAll decIntL (ks.map fun k => [LV.v (.int .i64 k)]) = some ks := decAll_enc (d := decIntL) (fun _ => rfl) ks


set_option maxHeartbeats 1000000 in
theorem product_sw {N : Nat} (p : Part N) (hp : p.f = 141) (l : List Tok) (s : PS) (h : qP N () l s) :
    SW Tryd.prog ⟨none, 1⟩ Tryd.f134.ntmps (Tryd.f134.body.getD .skip) ⟨2, zipT 0 [pv 0 0 0], zipH 0 [prsK l s.at_ s.op s.ts.length 1, tmsK s.ts]⟩ (outR Tryd.prog Tryd.f134.results.toList 1 (outP l (outU (rowF l (p.F l) [5, 6, 7] s)))) := by
  refine aRun_sound (ctx := [⟨_, rowS p⟩]) 4000 ?_
  rw [Tryd.ntmps134, Tryd.results134]
  simp only [Tryd.f134, Option.getD_some, zipT]
  have hq : qP N () l s := h
  rcases hr : rowF l (p.F l) [5, 6, 7] s with e | s'
  · simp only [go_sem, Nat.reduceOr, Nat.reducePow, Nat.reduceDiv, Nat.reduceMod, Nat.reduceBEq, Int.reduceBEq, Int.reduceBNe, Int.reduceEq, Int.reduceLT, Int.reduceLE, Int.reduceToNat, reduceIte, reduceCtorEq, Nat.reduceEqDiff, Nat.reduceAdd, Nat.reduceLT, Nat.reduceLeDiff, Nat.reduceMul, Nat.reduceSub, prsK, tmsK, row_run, row_pan, decRow, decP, tms_dec, decIntL, decAll, hp, hq, hr, outU_error, outU_ok, outP_ok, outP_error]
    try (intro k hk; omega)
  · simp only [go_sem, Nat.reduceOr, Nat.reducePow, Nat.reduceDiv, Nat.reduceMod, Nat.reduceBEq, Int.reduceBEq, Int.reduceBNe, Int.reduceEq, Int.reduceLT, Int.reduceLE, Int.reduceToNat, reduceIte, reduceCtorEq, Nat.reduceEqDiff, Nat.reduceAdd, Nat.reduceLT, Nat.reduceLeDiff, Nat.reduceMul, Nat.reduceSub, prsK, tmsK, row_run, row_pan, decRow, decP, tms_dec, decIntL, decAll, hp, hq, hr, outU_error, outU_ok, outP_ok, outP_error]
    first
      | exact leftP (s' := s') (tb := 34) rfl rfl rfl (by decide)
      | exact ⟨by intro k hk; omega, leftP (s' := s') (tb := 34) rfl rfl rfl (by decide)⟩

theorem en_product (args : Array Value) (w : World) : (callFunc 134 args).run Tryd.prog w = .ok (.enter 134 args) w := by go_simp
def productP {N : Nat} (p : Part N) (hp : p.f = 141) : Part N where
  f := 134
  F := fun l => rowF l (p.F l) [5, 6, 7]
  spec := mkX _ _ _ Tryd.func134 rfl en_product xs0 (qP N) (fun _ l s => outU (rowF l (p.F l) [5, 6, 7] s)) (by rw [Tryd.ntmps134]; decide) (fun _ l s h => product_sw p hp l s h)
  run_eq := fun _ _ _ => rfl
  pan_eq := fun _ _ _ => rfl
  goes := fun l => rowF_goes (p.goes l)
  ne := by decide

set_option maxHeartbeats 1000000 in
theorem sum_sw {N : Nat} (p : Part N) (hp : p.f = 134) (l : List Tok) (s : PS) (h : qP N () l s) :
    SW Tryd.prog ⟨none, 1⟩ Tryd.f131.ntmps (Tryd.f131.body.getD .skip) ⟨2, zipT 0 [pv 0 0 0], zipH 0 [prsK l s.at_ s.op s.ts.length 1, tmsK s.ts]⟩ (outR Tryd.prog Tryd.f131.results.toList 1 (outP l (outU (rowF l (p.F l) [8, 9] s)))) := by
  refine aRun_sound (ctx := [⟨_, rowS p⟩]) 4000 ?_
  rw [Tryd.ntmps131, Tryd.results131]
  simp only [Tryd.f131, Option.getD_some, zipT]
  have hq : qP N () l s := h
  rcases hr : rowF l (p.F l) [8, 9] s with e | s'
  · simp only [go_sem, Nat.reduceOr, Nat.reducePow, Nat.reduceDiv, Nat.reduceMod, Nat.reduceBEq, Int.reduceBEq, Int.reduceBNe, Int.reduceEq, Int.reduceLT, Int.reduceLE, Int.reduceToNat, reduceIte, reduceCtorEq, Nat.reduceEqDiff, Nat.reduceAdd, Nat.reduceLT, Nat.reduceLeDiff, Nat.reduceMul, Nat.reduceSub, prsK, tmsK, row_run, row_pan, decRow, decP, tms_dec, decIntL, decAll, hp, hq, hr, outU_error, outU_ok, outP_ok, outP_error]
    try (intro k hk; omega)
  · simp only [go_sem, Nat.reduceOr, Nat.reducePow, Nat.reduceDiv, Nat.reduceMod, Nat.reduceBEq, Int.reduceBEq, Int.reduceBNe, Int.reduceEq, Int.reduceLT, Int.reduceLE, Int.reduceToNat, reduceIte, reduceCtorEq, Nat.reduceEqDiff, Nat.reduceAdd, Nat.reduceLT, Nat.reduceLeDiff, Nat.reduceMul, Nat.reduceSub, prsK, tmsK, row_run, row_pan, decRow, decP, tms_dec, decIntL, decAll, hp, hq, hr, outU_error, outU_ok, outP_ok, outP_error]
    first
      | exact leftP (s' := s') (tb := 34) rfl rfl rfl (by decide)
      | exact ⟨by intro k hk; omega, leftP (s' := s') (tb := 34) rfl rfl rfl (by decide)⟩

theorem en_sum (args : Array Value) (w : World) : (callFunc 131 args).run Tryd.prog w = .ok (.enter 131 args) w := by go_simp
def sumP {N : Nat} (p : Part N) (hp : p.f = 134) : Part N where
  f := 131
  F := fun l => rowF l (p.F l) [8, 9]
  spec := mkX _ _ _ Tryd.func131 rfl en_sum xs0 (qP N) (fun _ l s => outU (rowF l (p.F l) [8, 9] s)) (by rw [Tryd.ntmps131]; decide) (fun _ l s h => sum_sw p hp l s h)
  run_eq := fun _ _ _ => rfl
  pan_eq := fun _ _ _ => rfl
  goes := fun l => rowF_goes (p.goes l)
  ne := by decide

set_option maxHeartbeats 1000000 in
theorem shift_sw {N : Nat} (p : Part N) (hp : p.f = 131) (l : List Tok) (s : PS) (h : qP N () l s) :
    SW Tryd.prog ⟨none, 1⟩ Tryd.f126.ntmps (Tryd.f126.body.getD .skip) ⟨2, zipT 0 [pv 0 0 0], zipH 0 [prsK l s.at_ s.op s.ts.length 1, tmsK s.ts]⟩ (outR Tryd.prog Tryd.f126.results.toList 1 (outP l (outU (rowF l (p.F l) [10, 11] s)))) := by
  refine aRun_sound (ctx := [⟨_, rowS p⟩]) 4000 ?_
  rw [Tryd.ntmps126, Tryd.results126]
  simp only [Tryd.f126, Option.getD_some, zipT]
  have hq : qP N () l s := h
  rcases hr : rowF l (p.F l) [10, 11] s with e | s'
  · simp only [go_sem, Nat.reduceOr, Nat.reducePow, Nat.reduceDiv, Nat.reduceMod, Nat.reduceBEq, Int.reduceBEq, Int.reduceBNe, Int.reduceEq, Int.reduceLT, Int.reduceLE, Int.reduceToNat, reduceIte, reduceCtorEq, Nat.reduceEqDiff, Nat.reduceAdd, Nat.reduceLT, Nat.reduceLeDiff, Nat.reduceMul, Nat.reduceSub, prsK, tmsK, row_run, row_pan, decRow, decP, tms_dec, decIntL, decAll, hp, hq, hr, outU_error, outU_ok, outP_ok, outP_error]
    try (intro k hk; omega)
  · simp only [go_sem, Nat.reduceOr, Nat.reducePow, Nat.reduceDiv, Nat.reduceMod, Nat.reduceBEq, Int.reduceBEq, Int.reduceBNe, Int.reduceEq, Int.reduceLT, Int.reduceLE, Int.reduceToNat, reduceIte, reduceCtorEq, Nat.reduceEqDiff, Nat.reduceAdd, Nat.reduceLT, Nat.reduceLeDiff, Nat.reduceMul, Nat.reduceSub, prsK, tmsK, row_run, row_pan, decRow, decP, tms_dec, decIntL, decAll, hp, hq, hr, outU_error, outU_ok, outP_ok, outP_error]
    first
      | exact leftP (s' := s') (tb := 34) rfl rfl rfl (by decide)
      | exact ⟨by intro k hk; omega, leftP (s' := s') (tb := 34) rfl rfl rfl (by decide)⟩

theorem en_shift (args : Array Value) (w : World) : (callFunc 126 args).run Tryd.prog w = .ok (.enter 126 args) w := by go_simp
def shiftP {N : Nat} (p : Part N) (hp : p.f = 131) : Part N where
  f := 126
  F := fun l => rowF l (p.F l) [10, 11]
  spec := mkX _ _ _ Tryd.func126 rfl en_shift xs0 (qP N) (fun _ l s => outU (rowF l (p.F l) [10, 11] s)) (by rw [Tryd.ntmps126]; decide) (fun _ l s h => shift_sw p hp l s h)
  run_eq := fun _ _ _ => rfl
  pan_eq := fun _ _ _ => rfl
  goes := fun l => rowF_goes (p.goes l)
  ne := by decide

set_option maxHeartbeats 1000000 in
theorem both_sw {N : Nat} (p : Part N) (hp : p.f = 126) (l : List Tok) (s : PS) (h : qP N () l s) :
    SW Tryd.prog ⟨none, 1⟩ Tryd.f113.ntmps (Tryd.f113.body.getD .skip) ⟨2, zipT 0 [pv 0 0 0], zipH 0 [prsK l s.at_ s.op s.ts.length 1, tmsK s.ts]⟩ (outR Tryd.prog Tryd.f113.results.toList 1 (outP l (outU (rowF l (p.F l) [12] s)))) := by
  refine aRun_sound (ctx := [⟨_, rowS p⟩]) 4000 ?_
  rw [Tryd.ntmps113, Tryd.results113]
  simp only [Tryd.f113, Option.getD_some, zipT]
  have hq : qP N () l s := h
  rcases hr : rowF l (p.F l) [12] s with e | s'
  · simp only [go_sem, Nat.reduceOr, Nat.reducePow, Nat.reduceDiv, Nat.reduceMod, Nat.reduceBEq, Int.reduceBEq, Int.reduceBNe, Int.reduceEq, Int.reduceLT, Int.reduceLE, Int.reduceToNat, reduceIte, reduceCtorEq, Nat.reduceEqDiff, Nat.reduceAdd, Nat.reduceLT, Nat.reduceLeDiff, Nat.reduceMul, Nat.reduceSub, prsK, tmsK, row_run, row_pan, decRow, decP, tms_dec, decIntL, decAll, hp, hq, hr, outU_error, outU_ok, outP_ok, outP_error]
    try (intro k hk; omega)
  · simp only [go_sem, Nat.reduceOr, Nat.reducePow, Nat.reduceDiv, Nat.reduceMod, Nat.reduceBEq, Int.reduceBEq, Int.reduceBNe, Int.reduceEq, Int.reduceLT, Int.reduceLE, Int.reduceToNat, reduceIte, reduceCtorEq, Nat.reduceEqDiff, Nat.reduceAdd, Nat.reduceLT, Nat.reduceLeDiff, Nat.reduceMul, Nat.reduceSub, prsK, tmsK, row_run, row_pan, decRow, decP, tms_dec, decIntL, decAll, hp, hq, hr, outU_error, outU_ok, outP_ok, outP_error]
    first
      | exact leftP (s' := s') (tb := 34) rfl rfl rfl (by decide)
      | exact ⟨by intro k hk; omega, leftP (s' := s') (tb := 34) rfl rfl rfl (by decide)⟩

theorem en_both (args : Array Value) (w : World) : (callFunc 113 args).run Tryd.prog w = .ok (.enter 113 args) w := by go_simp
def bothP {N : Nat} (p : Part N) (hp : p.f = 126) : Part N where
  f := 113
  F := fun l => rowF l (p.F l) [12]
  spec := mkX _ _ _ Tryd.func113 rfl en_both xs0 (qP N) (fun _ l s => outU (rowF l (p.F l) [12] s)) (by rw [Tryd.ntmps113]; decide) (fun _ l s h => both_sw p hp l s h)
  run_eq := fun _ _ _ => rfl
  pan_eq := fun _ _ _ => rfl
  goes := fun l => rowF_goes (p.goes l)
  ne := by decide

set_option maxHeartbeats 1000000 in
theorem odd_sw {N : Nat} (p : Part N) (hp : p.f = 113) (l : List Tok) (s : PS) (h : qP N () l s) :
    SW Tryd.prog ⟨none, 1⟩ Tryd.f93.ntmps (Tryd.f93.body.getD .skip) ⟨2, zipT 0 [pv 0 0 0], zipH 0 [prsK l s.at_ s.op s.ts.length 1, tmsK s.ts]⟩ (outR Tryd.prog Tryd.f93.results.toList 1 (outP l (outU (rowF l (p.F l) [13] s)))) := by
  refine aRun_sound (ctx := [⟨_, rowS p⟩]) 4000 ?_
  rw [Tryd.ntmps93, Tryd.results93]
  simp only [Tryd.f93, Option.getD_some, zipT]
  have hq : qP N () l s := h
  rcases hr : rowF l (p.F l) [13] s with e | s'
  · simp only [go_sem, Nat.reduceOr, Nat.reducePow, Nat.reduceDiv, Nat.reduceMod, Nat.reduceBEq, Int.reduceBEq, Int.reduceBNe, Int.reduceEq, Int.reduceLT, Int.reduceLE, Int.reduceToNat, reduceIte, reduceCtorEq, Nat.reduceEqDiff, Nat.reduceAdd, Nat.reduceLT, Nat.reduceLeDiff, Nat.reduceMul, Nat.reduceSub, prsK, tmsK, row_run, row_pan, decRow, decP, tms_dec, decIntL, decAll, hp, hq, hr, outU_error, outU_ok, outP_ok, outP_error]
    try (intro k hk; omega)
  · simp only [go_sem, Nat.reduceOr, Nat.reducePow, Nat.reduceDiv, Nat.reduceMod, Nat.reduceBEq, Int.reduceBEq, Int.reduceBNe, Int.reduceEq, Int.reduceLT, Int.reduceLE, Int.reduceToNat, reduceIte, reduceCtorEq, Nat.reduceEqDiff, Nat.reduceAdd, Nat.reduceLT, Nat.reduceLeDiff, Nat.reduceMul, Nat.reduceSub, prsK, tmsK, row_run, row_pan, decRow, decP, tms_dec, decIntL, decAll, hp, hq, hr, outU_error, outU_ok, outP_ok, outP_error]
    first
      | exact leftP (s' := s') (tb := 34) rfl rfl rfl (by decide)
      | exact ⟨by intro k hk; omega, leftP (s' := s') (tb := 34) rfl rfl rfl (by decide)⟩

theorem en_odd (args : Array Value) (w : World) : (callFunc 93 args).run Tryd.prog w = .ok (.enter 93 args) w := by go_simp
def oddP {N : Nat} (p : Part N) (hp : p.f = 113) : Part N where
  f := 93
  F := fun l => rowF l (p.F l) [13]
  spec := mkX _ _ _ Tryd.func93 rfl en_odd xs0 (qP N) (fun _ l s => outU (rowF l (p.F l) [13] s)) (by rw [Tryd.ntmps93]; decide) (fun _ l s h => odd_sw p hp l s h)
  run_eq := fun _ _ _ => rfl
  pan_eq := fun _ _ _ => rfl
  goes := fun l => rowF_goes (p.goes l)
  ne := by decide

set_option maxHeartbeats 1000000 in
theorem either_sw {N : Nat} (p : Part N) (hp : p.f = 93) (l : List Tok) (s : PS) (h : qP N () l s) :
    SW Tryd.prog ⟨none, 1⟩ Tryd.f72.ntmps (Tryd.f72.body.getD .skip) ⟨2, zipT 0 [pv 0 0 0], zipH 0 [prsK l s.at_ s.op s.ts.length 1, tmsK s.ts]⟩ (outR Tryd.prog Tryd.f72.results.toList 1 (outP l (outU (rowF l (p.F l) [14] s)))) := by
  refine aRun_sound (ctx := [⟨_, rowS p⟩]) 4000 ?_
  rw [Tryd.ntmps72, Tryd.results72]
  simp only [Tryd.f72, Option.getD_some, zipT]
  have hq : qP N () l s := h
  rcases hr : rowF l (p.F l) [14] s with e | s'
  · simp only [go_sem, Nat.reduceOr, Nat.reducePow, Nat.reduceDiv, Nat.reduceMod, Nat.reduceBEq, Int.reduceBEq, Int.reduceBNe, Int.reduceEq, Int.reduceLT, Int.reduceLE, Int.reduceToNat, reduceIte, reduceCtorEq, Nat.reduceEqDiff, Nat.reduceAdd, Nat.reduceLT, Nat.reduceLeDiff, Nat.reduceMul, Nat.reduceSub, prsK, tmsK, row_run, row_pan, decRow, decP, tms_dec, decIntL, decAll, hp, hq, hr, outU_error, outU_ok, outP_ok, outP_error]
    try (intro k hk; omega)
  · simp only [go_sem, Nat.reduceOr, Nat.reducePow, Nat.reduceDiv, Nat.reduceMod, Nat.reduceBEq, Int.reduceBEq, Int.reduceBNe, Int.reduceEq, Int.reduceLT, Int.reduceLE, Int.reduceToNat, reduceIte, reduceCtorEq, Nat.reduceEqDiff, Nat.reduceAdd, Nat.reduceLT, Nat.reduceLeDiff, Nat.reduceMul, Nat.reduceSub, prsK, tmsK, row_run, row_pan, decRow, decP, tms_dec, decIntL, decAll, hp, hq, hr, outU_error, outU_ok, outP_ok, outP_error]
    first
      | exact leftP (s' := s') (tb := 34) rfl rfl rfl (by decide)
      | exact ⟨by intro k hk; omega, leftP (s' := s') (tb := 34) rfl rfl rfl (by decide)⟩

theorem en_either (args : Array Value) (w : World) : (callFunc 72 args).run Tryd.prog w = .ok (.enter 72 args) w := by go_simp
def eitherP {N : Nat} (p : Part N) (hp : p.f = 93) : Part N where
  f := 72
  F := fun l => rowF l (p.F l) [14]
  spec := mkX _ _ _ Tryd.func72 rfl en_either xs0 (qP N) (fun _ l s => outU (rowF l (p.F l) [14] s)) (by rw [Tryd.ntmps72]; decide) (fun _ l s h => either_sw p hp l s h)
  run_eq := fun _ _ _ => rfl
  pan_eq := fun _ _ _ => rfl
  goes := fun l => rowF_goes (p.goes l)
  ne := by decide

end Go.Proofs.YtcdbldakjepjiaaDoor.Ex

/-! ## N5 -/
namespace Go.Proofs.YtcdbldakjepjiaaDoor.Ex
open Go.RowKit

def tbOf (h : Heap) : Nat := match hget h 0 with
  | some ⟨_, _, _, [[_, _, _, .sl tb _ _]]⟩ => tb
  | _ => 0
theorem leftA {l : List Tok} {s' : PS} {r : AV} {st : St} (hr : r.plain = true) (h1 : hget st.h 0 = some (prsK l s'.at_ s'.op s'.ts.length (tbOf st.h))) (h2 : hget st.h (tbOf st.h) = some (tmsK s'.ts)) (hn : tbOf st.h ≠ 0) : leftR 1 st (outP l (.ok (r, s'))) (some r) := leftP hr h1 h2 hn

/-- an operand, where there is a token -/
def operandG (rp rq : PS → PR) (l : List Tok) (t : Tok) (s : PS) : PR :=
  if t.kind = 2 then putF ⟨1, wrap64 t.n, emp⟩ { s with at_ := s.at_ + 1 }
  else if t.kind = 1 then putF ⟨2, 0, t.text⟩ { s with at_ := s.at_ + 1 }
  else if t.kind = 4 ∧ t.text = ⟨#[40]⟩ then
    match openedF rp s with
    | .error e => .error e
    | .ok s' => if nextF l s' = ⟨#[41]⟩ then .ok { s' with at_ := s'.at_ + 1 } else .error 90
  else if t.kind = 4 ∧ (t.text = ⟨#[45]⟩ ∨ t.text = ⟨#[126]⟩) then
    match openedF rq s with
    | .error e => .error e
    | .ok s' => putF ⟨if t.text = ⟨#[126]⟩ then 4 else 3, 0, emp⟩ s'
  else .error 90

theorem operandF_some {l : List Tok} {N : Nat} {s : PS} {t : Tok} (h : l[s.at_]? = some t) : operandF l (N + 1) s = operandG (levelsF l (operandF l N)) (operandF l N) l t s := by
  rw [operandF, h]; rfl

set_option maxHeartbeats 1000000 in
theorem operand_none {N : Nat} (l : List Tok) (s : PS) (h : qP N () l s) (hl : l[s.at_]? = none) :
    SW Tryd.prog ⟨none, 1⟩ Tryd.f141.ntmps (Tryd.f141.body.getD .skip) ⟨2, zipT 0 [pv 0 0 0], zipH 0 [prsK l s.at_ s.op s.ts.length 1, tmsK s.ts]⟩ (outR Tryd.prog Tryd.f141.results.toList 1 (outP l (outU (.error 90)))) := by
  refine aRun_sound (ctx := [⟨_, failS⟩]) 4000 ?_
  rw [Tryd.ntmps141, Tryd.results141]
  simp only [Tryd.f141, Option.getD_some, zipT]
  have hge : ¬ (s.at_ : Int) < l.length := by have := List.getElem?_eq_none_iff.1 hl; omega
  have hge2 : (l.length : Int) ≤ s.at_ := by omega
  simp only [go_sem, Nat.reduceOr, Nat.reducePow, Nat.reduceDiv, Nat.reduceMod, Nat.reduceBEq, Int.reduceBEq, Int.reduceBNe, Int.reduceEq, Int.reduceLT, Int.reduceLE, Int.reduceToNat, reduceIte, reduceCtorEq, Nat.reduceEqDiff, Nat.reduceAdd, Nat.reduceLT, Nat.reduceLeDiff, Nat.reduceMul, Nat.reduceSub, prsK, tmsK]
  refine sw_draw (ctx := []) mixed [] (by kernel_rfl) ?_
  simp only [go_sem, Nat.reduceOr, Nat.reducePow, Nat.reduceDiv, Nat.reduceMod, Nat.reduceBEq, Int.reduceBEq, Int.reduceBNe, Int.reduceEq, Int.reduceLT, Int.reduceLE, Int.reduceToNat, reduceIte, reduceCtorEq, Nat.reduceEqDiff, Nat.reduceAdd, Nat.reduceLT, Nat.reduceLeDiff, Nat.reduceMul, Nat.reduceSub, hge, hge2, List.length_map, fail_run, fail_pan, outU_error, outP_error]

set_option maxRecDepth 4000 in
set_option maxHeartbeats 4000000 in
theorem operand_some {N : Nat} (p q : Part N) (hp : p.f = 72) (hq : q.f = 141) (l : List Tok) (s : PS) (h : qP (N + 1) () l s) (t : Tok) (hl : l[s.at_]? = some t) :
    SW Tryd.prog ⟨none, 1⟩ Tryd.f141.ntmps (Tryd.f141.body.getD .skip) ⟨2, zipT 0 [pv 0 0 0], zipH 0 [prsK l s.at_ s.op s.ts.length 1, tmsK s.ts]⟩ (outR Tryd.prog Tryd.f141.results.toList 1 (outP l (outU (operandG (p.F l) (q.F l) l t s)))) := by
  refine aRun_sound (ctx := [⟨_, openedS p q⟩, ⟨_, nextS⟩, ⟨_, putS⟩, ⟨_, failS⟩]) 4000 ?_
  rw [Tryd.ntmps141, Tryd.results141]
  simp only [Tryd.f141, Option.getD_some, zipT]
  obtain ⟨hok, hlen⟩ := h
  have hltN := (List.getElem?_eq_some_iff.1 hl).1
  have hlt : (s.at_ : Int) < l.length := by omega
  have hge : ¬ (l.length : Int) ≤ s.at_ := by omega
  have e1 := wrap_at hok.le hlen
  simp only [go_sem, Nat.reduceOr, Nat.reducePow, Nat.reduceDiv, Nat.reduceMod, Nat.reduceBEq, Int.reduceBEq, Int.reduceBNe, Int.reduceEq, Int.reduceLT, Int.reduceLE, Int.reduceToNat, reduceIte, reduceCtorEq, Nat.reduceEqDiff, Nat.reduceAdd, Nat.reduceLT, Nat.reduceLeDiff, Nat.reduceMul, Nat.reduceSub, prsK, tmsK]
  refine sw_draw (ctx := []) mixed [] (by kernel_rfl) ?_
  simp only [go_sem, Nat.reduceOr, Nat.reducePow, Nat.reduceDiv, Nat.reduceMod, Nat.reduceBEq, Int.reduceBEq, Int.reduceBNe, Int.reduceEq, Int.reduceLT, Int.reduceLE, Int.reduceToNat, reduceIte, reduceCtorEq, Nat.reduceEqDiff, Nat.reduceAdd, Nat.reduceLT, Nat.reduceLeDiff, Nat.reduceMul, Nat.reduceSub, hlt, hge, List.length_map]
  refine sw_draw (ctx := []) mixed [11] (by kernel_rfl) ?_
  have h256 := hok.ts
  by_cases c2 : t.kind = 2
  · have eG : operandG (p.F l) (q.F l) l t s = putF ⟨1, IntKind.i64.wrap t.n, ⟨#[]⟩⟩ { s with at_ := s.at_ + 1 } := by rw [operandG, if_pos c2, IntKind.wrap_i64, Go.RowKit.wrap64]; rfl
    rw [eG]
    rcases hp2 : putF ⟨1, IntKind.i64.wrap t.n, ⟨#[]⟩⟩ { s with at_ := s.at_ + 1 } with e | s'
    · simp only [go_sem, Nat.reduceOr, Nat.reducePow, Nat.reduceDiv, Nat.reduceMod, Nat.reduceBEq, Int.reduceBEq, Int.reduceBNe, Int.reduceEq, Int.reduceLT, Int.reduceLE, Int.reduceToNat, reduceIte, reduceCtorEq, Nat.reduceEqDiff, Nat.reduceAdd, Nat.reduceLT, Nat.reduceLeDiff, Nat.reduceMul, Nat.reduceSub, prsK, tmsK, hlt, hge, e1, List.length_map, hl, tokE, opened_run, opened_pan, next_run, next_pan, put_run, put_pan, fail_run, fail_pan, decX, decP, xs0, xsFn, xsTerm_dec, tms_dec, outU_error, outU_ok, outP_ok, outP_error, Except.map, hp, hq, h256, c2, hp2]
    · simp only [go_sem, Nat.reduceOr, Nat.reducePow, Nat.reduceDiv, Nat.reduceMod, Nat.reduceBEq, Int.reduceBEq, Int.reduceBNe, Int.reduceEq, Int.reduceLT, Int.reduceLE, Int.reduceToNat, reduceIte, reduceCtorEq, Nat.reduceEqDiff, Nat.reduceAdd, Nat.reduceLT, Nat.reduceLeDiff, Nat.reduceMul, Nat.reduceSub, prsK, tmsK, hlt, hge, e1, List.length_map, hl, tokE, opened_run, opened_pan, next_run, next_pan, put_run, put_pan, fail_run, fail_pan, decX, decP, xs0, xsFn, xsTerm_dec, tms_dec, outU_error, outU_ok, outP_ok, outP_error, Except.map, hp, hq, h256, c2, hp2]
      exact leftA (s' := s') rfl rfl rfl (Nat.succ_ne_zero _)
  have c2b : (t.kind == 2) = false := by simp [c2]
  by_cases c1 : t.kind = 1
  · have eG : operandG (p.F l) (q.F l) l t s = putF ⟨2, 0, t.text⟩ { s with at_ := s.at_ + 1 } := by rw [operandG, if_neg c2, if_pos c1]
    rw [eG]
    rcases hp2 : putF ⟨2, 0, t.text⟩ { s with at_ := s.at_ + 1 } with e | s'
    · simp only [go_sem, Nat.reduceOr, Nat.reducePow, Nat.reduceDiv, Nat.reduceMod, Nat.reduceBEq, Int.reduceBEq, Int.reduceBNe, Int.reduceEq, Int.reduceLT, Int.reduceLE, Int.reduceToNat, reduceIte, reduceCtorEq, Nat.reduceEqDiff, Nat.reduceAdd, Nat.reduceLT, Nat.reduceLeDiff, Nat.reduceMul, Nat.reduceSub, prsK, tmsK, hlt, hge, e1, List.length_map, hl, tokE, opened_run, opened_pan, next_run, next_pan, put_run, put_pan, fail_run, fail_pan, decX, decP, xs0, xsFn, xsTerm_dec, tms_dec, outU_error, outU_ok, outP_ok, outP_error, Except.map, hp, hq, h256, c1, hp2]
    · simp only [go_sem, Nat.reduceOr, Nat.reducePow, Nat.reduceDiv, Nat.reduceMod, Nat.reduceBEq, Int.reduceBEq, Int.reduceBNe, Int.reduceEq, Int.reduceLT, Int.reduceLE, Int.reduceToNat, reduceIte, reduceCtorEq, Nat.reduceEqDiff, Nat.reduceAdd, Nat.reduceLT, Nat.reduceLeDiff, Nat.reduceMul, Nat.reduceSub, prsK, tmsK, hlt, hge, e1, List.length_map, hl, tokE, opened_run, opened_pan, next_run, next_pan, put_run, put_pan, fail_run, fail_pan, decX, decP, xs0, xsFn, xsTerm_dec, tms_dec, outU_error, outU_ok, outP_ok, outP_error, Except.map, hp, hq, h256, c1, hp2]
      exact leftA (s' := s') rfl rfl rfl (Nat.succ_ne_zero _)
  have hopq : ((72 : Nat) = 141) = False := by simp
  by_cases c4 : t.kind = 4
  · by_cases ct : t.text = ⟨#[40]⟩
    · rcases ho : openedF (p.F l) s with e | s'
      · have eG : operandG (p.F l) (q.F l) l t s = .error e := by rw [operandG, if_neg c2, if_neg c1, if_pos ⟨c4, ct⟩, ho]
        rw [eG]
        simp only [go_sem, Nat.reduceOr, Nat.reducePow, Nat.reduceDiv, Nat.reduceMod, Nat.reduceBEq, Int.reduceBEq, Int.reduceBNe, Int.reduceEq, Int.reduceLT, Int.reduceLE, Int.reduceToNat, reduceIte, reduceCtorEq, Nat.reduceEqDiff, Nat.reduceAdd, Nat.reduceLT, Nat.reduceLeDiff, Nat.reduceMul, Nat.reduceSub, prsK, tmsK, hlt, hge, e1, List.length_map, hl, tokE, opened_run, opened_pan, next_run, next_pan, put_run, put_pan, fail_run, fail_pan, decX, decP, xs0, xsFn, xsTerm_dec, tms_dec, outU_error, outU_ok, outP_ok, outP_error, Except.map, hp, hq, h256, c4, ct, ho, hok, hltN, hlen]
      · have hg := openedF_goes (p.goes l) hok hltN ho
        have hsl := hg.2.1
        have hlm : l.length ≤ maxLen := by unfold maxLen; omega
        by_cases hn : nextF l s' = ⟨#[41]⟩
        · have eG : operandG (p.F l) (q.F l) l t s = .ok { s' with at_ := s'.at_ + 1 } := by rw [operandG, if_neg c2, if_neg c1, if_pos ⟨c4, ct⟩, ho]; simp only [hn, if_true]
          rw [eG]
          have e5 := wrap_at hsl hlen
          simp only [go_sem, Nat.reduceOr, Nat.reducePow, Nat.reduceDiv, Nat.reduceMod, Nat.reduceBEq, Int.reduceBEq, Int.reduceBNe, Int.reduceEq, Int.reduceLT, Int.reduceLE, Int.reduceToNat, reduceIte, reduceCtorEq, Nat.reduceEqDiff, Nat.reduceAdd, Nat.reduceLT, Nat.reduceLeDiff, Nat.reduceMul, Nat.reduceSub, prsK, tmsK, hlt, hge, e1, List.length_map, hl, tokE, opened_run, opened_pan, next_run, next_pan, put_run, put_pan, fail_run, fail_pan, decX, decP, xs0, xsFn, xsTerm_dec, tms_dec, outU_error, outU_ok, outP_ok, outP_error, Except.map, hp, hq, h256, c4, ct, ho, hok, hltN, hlen, hsl, hlm, hn, e5]
          exact leftA (s' := { s' with at_ := s'.at_ + 1 }) rfl rfl rfl (Nat.succ_ne_zero _)
        · have eG : operandG (p.F l) (q.F l) l t s = .error 90 := by rw [operandG, if_neg c2, if_neg c1, if_pos ⟨c4, ct⟩, ho]; simp only [hn, if_false]
          rw [eG]
          simp only [go_sem, Nat.reduceOr, Nat.reducePow, Nat.reduceDiv, Nat.reduceMod, Nat.reduceBEq, Int.reduceBEq, Int.reduceBNe, Int.reduceEq, Int.reduceLT, Int.reduceLE, Int.reduceToNat, reduceIte, reduceCtorEq, Nat.reduceEqDiff, Nat.reduceAdd, Nat.reduceLT, Nat.reduceLeDiff, Nat.reduceMul, Nat.reduceSub, prsK, tmsK, hlt, hge, e1, List.length_map, hl, tokE, opened_run, opened_pan, next_run, next_pan, put_run, put_pan, fail_run, fail_pan, decX, decP, xs0, xsFn, xsTerm_dec, tms_dec, outU_error, outU_ok, outP_ok, outP_error, Except.map, hp, hq, h256, c4, ct, ho, hok, hltN, hlen, hsl, hlm, hn]
    · by_cases cm : t.text = ⟨#[45]⟩
      · have ne1 : ((⟨#[45]⟩ : ByteArray) = ⟨#[40]⟩) = False := by simp
        have ne2 : ((⟨#[45]⟩ : ByteArray) = ⟨#[45]⟩) = True := by simp
        have ne3 : ((⟨#[45]⟩ : ByteArray) = ⟨#[126]⟩) = False := by simp
        rcases ho : openedF (q.F l) s with e | s'
        · have eG : operandG (p.F l) (q.F l) l t s = .error e := by rw [operandG, if_neg c2, if_neg c1, if_neg (fun h => ct h.2), if_pos ⟨c4, .inl cm⟩, ho]
          rw [eG]
          simp only [go_sem, Nat.reduceOr, Nat.reducePow, Nat.reduceDiv, Nat.reduceMod, Nat.reduceBEq, Int.reduceBEq, Int.reduceBNe, Int.reduceEq, Int.reduceLT, Int.reduceLE, Int.reduceToNat, reduceIte, reduceCtorEq, Nat.reduceEqDiff, Nat.reduceAdd, Nat.reduceLT, Nat.reduceLeDiff, Nat.reduceMul, Nat.reduceSub, prsK, tmsK, hlt, hge, e1, List.length_map, hl, tokE, opened_run, opened_pan, next_run, next_pan, put_run, put_pan, fail_run, fail_pan, decX, decP, xs0, xsFn, xsTerm_dec, tms_dec, outU_error, outU_ok, outP_ok, outP_error, Except.map, hp, hq, h256, c4, cm, ct, ne1, ne2, ne3, ho, hok, hltN, hlen]
        · have hg := openedF_goes (q.goes l) hok hltN ho
          have hs256 := hg.2.2.2
          rcases hp2 : putF ⟨3, 0, ⟨#[]⟩⟩ s' with e | s''
          · have eG : operandG (p.F l) (q.F l) l t s = .error e := by
              rw [operandG, if_neg c2, if_neg c1, if_neg (fun h => ct h.2), if_pos ⟨c4, .inl cm⟩, ho, cm]
              simp only [ne3, if_true, if_false]
              exact hp2
            rw [eG]
            simp only [go_sem, Nat.reduceOr, Nat.reducePow, Nat.reduceDiv, Nat.reduceMod, Nat.reduceBEq, Int.reduceBEq, Int.reduceBNe, Int.reduceEq, Int.reduceLT, Int.reduceLE, Int.reduceToNat, reduceIte, reduceCtorEq, Nat.reduceEqDiff, Nat.reduceAdd, Nat.reduceLT, Nat.reduceLeDiff, Nat.reduceMul, Nat.reduceSub, prsK, tmsK, hlt, hge, e1, List.length_map, hl, tokE, opened_run, opened_pan, next_run, next_pan, put_run, put_pan, fail_run, fail_pan, decX, decP, xs0, xsFn, xsTerm_dec, tms_dec, outU_error, outU_ok, outP_ok, outP_error, Except.map, hp, hq, h256, c4, cm, ct, ne1, ne2, ne3, ho, hok, hltN, hlen, hs256, hp2]
          · have eG : operandG (p.F l) (q.F l) l t s = .ok s'' := by
              rw [operandG, if_neg c2, if_neg c1, if_neg (fun h => ct h.2), if_pos ⟨c4, .inl cm⟩, ho, cm]
              simp only [ne3, if_true, if_false]
              exact hp2
            rw [eG]
            simp only [go_sem, Nat.reduceOr, Nat.reducePow, Nat.reduceDiv, Nat.reduceMod, Nat.reduceBEq, Int.reduceBEq, Int.reduceBNe, Int.reduceEq, Int.reduceLT, Int.reduceLE, Int.reduceToNat, reduceIte, reduceCtorEq, Nat.reduceEqDiff, Nat.reduceAdd, Nat.reduceLT, Nat.reduceLeDiff, Nat.reduceMul, Nat.reduceSub, prsK, tmsK, hlt, hge, e1, List.length_map, hl, tokE, opened_run, opened_pan, next_run, next_pan, put_run, put_pan, fail_run, fail_pan, decX, decP, xs0, xsFn, xsTerm_dec, tms_dec, outU_error, outU_ok, outP_ok, outP_error, Except.map, hp, hq, h256, c4, cm, ct, ne1, ne2, ne3, ho, hok, hltN, hlen, hs256, hp2]
            exact leftA (s' := s'') rfl rfl rfl (Nat.succ_ne_zero _)
      · by_cases cn : t.text = ⟨#[126]⟩
        · have ne1 : ((⟨#[126]⟩ : ByteArray) = ⟨#[40]⟩) = False := by simp
          have ne2 : ((⟨#[126]⟩ : ByteArray) = ⟨#[45]⟩) = False := by simp
          have ne3 : ((⟨#[126]⟩ : ByteArray) = ⟨#[126]⟩) = True := by simp
          rcases ho : openedF (q.F l) s with e | s'
          · have eG : operandG (p.F l) (q.F l) l t s = .error e := by rw [operandG, if_neg c2, if_neg c1, if_neg (fun h => ct h.2), if_pos ⟨c4, .inr cn⟩, ho]
            rw [eG]
            simp only [go_sem, Nat.reduceOr, Nat.reducePow, Nat.reduceDiv, Nat.reduceMod, Nat.reduceBEq, Int.reduceBEq, Int.reduceBNe, Int.reduceEq, Int.reduceLT, Int.reduceLE, Int.reduceToNat, reduceIte, reduceCtorEq, Nat.reduceEqDiff, Nat.reduceAdd, Nat.reduceLT, Nat.reduceLeDiff, Nat.reduceMul, Nat.reduceSub, prsK, tmsK, hlt, hge, e1, List.length_map, hl, tokE, opened_run, opened_pan, next_run, next_pan, put_run, put_pan, fail_run, fail_pan, decX, decP, xs0, xsFn, xsTerm_dec, tms_dec, outU_error, outU_ok, outP_ok, outP_error, Except.map, hp, hq, h256, c4, cn, ct, ne1, ne2, ne3, ho, hok, hltN, hlen]
          · have hg := openedF_goes (q.goes l) hok hltN ho
            have hs256 := hg.2.2.2
            rcases hp2 : putF ⟨4, 0, ⟨#[]⟩⟩ s' with e | s''
            · have eG : operandG (p.F l) (q.F l) l t s = .error e := by
                rw [operandG, if_neg c2, if_neg c1, if_neg (fun h => ct h.2), if_pos ⟨c4, .inr cn⟩, ho, cn]
                simp only [ne3, if_true, if_false]
                exact hp2
              rw [eG]
              simp only [go_sem, Nat.reduceOr, Nat.reducePow, Nat.reduceDiv, Nat.reduceMod, Nat.reduceBEq, Int.reduceBEq, Int.reduceBNe, Int.reduceEq, Int.reduceLT, Int.reduceLE, Int.reduceToNat, reduceIte, reduceCtorEq, Nat.reduceEqDiff, Nat.reduceAdd, Nat.reduceLT, Nat.reduceLeDiff, Nat.reduceMul, Nat.reduceSub, prsK, tmsK, hlt, hge, e1, List.length_map, hl, tokE, opened_run, opened_pan, next_run, next_pan, put_run, put_pan, fail_run, fail_pan, decX, decP, xs0, xsFn, xsTerm_dec, tms_dec, outU_error, outU_ok, outP_ok, outP_error, Except.map, hp, hq, h256, c4, cn, ct, ne1, ne2, ne3, ho, hok, hltN, hlen, hs256, hp2]
            · have eG : operandG (p.F l) (q.F l) l t s = .ok s'' := by
                rw [operandG, if_neg c2, if_neg c1, if_neg (fun h => ct h.2), if_pos ⟨c4, .inr cn⟩, ho, cn]
                simp only [ne3, if_true, if_false]
                exact hp2
              rw [eG]
              simp only [go_sem, Nat.reduceOr, Nat.reducePow, Nat.reduceDiv, Nat.reduceMod, Nat.reduceBEq, Int.reduceBEq, Int.reduceBNe, Int.reduceEq, Int.reduceLT, Int.reduceLE, Int.reduceToNat, reduceIte, reduceCtorEq, Nat.reduceEqDiff, Nat.reduceAdd, Nat.reduceLT, Nat.reduceLeDiff, Nat.reduceMul, Nat.reduceSub, prsK, tmsK, hlt, hge, e1, List.length_map, hl, tokE, opened_run, opened_pan, next_run, next_pan, put_run, put_pan, fail_run, fail_pan, decX, decP, xs0, xsFn, xsTerm_dec, tms_dec, outU_error, outU_ok, outP_ok, outP_error, Except.map, hp, hq, h256, c4, cn, ct, ne1, ne2, ne3, ho, hok, hltN, hlen, hs256, hp2]
              exact leftA (s' := s'') rfl rfl rfl (Nat.succ_ne_zero _)
        · have eG : operandG (p.F l) (q.F l) l t s = .error 90 := by rw [operandG, if_neg c2, if_neg c1, if_neg (fun h => ct h.2), if_neg (fun h => h.2.elim cm cn)]
          rw [eG]
          simp only [go_sem, Nat.reduceOr, Nat.reducePow, Nat.reduceDiv, Nat.reduceMod, Nat.reduceBEq, Int.reduceBEq, Int.reduceBNe, Int.reduceEq, Int.reduceLT, Int.reduceLE, Int.reduceToNat, reduceIte, reduceCtorEq, Nat.reduceEqDiff, Nat.reduceAdd, Nat.reduceLT, Nat.reduceLeDiff, Nat.reduceMul, Nat.reduceSub, prsK, tmsK, hlt, hge, e1, List.length_map, hl, tokE, opened_run, opened_pan, next_run, next_pan, put_run, put_pan, fail_run, fail_pan, decX, decP, xs0, xsFn, xsTerm_dec, tms_dec, outU_error, outU_ok, outP_ok, outP_error, Except.map, hp, hq, h256, c4, ct, cm, cn]
  · have eG : operandG (p.F l) (q.F l) l t s = .error 90 := by rw [operandG, if_neg c2, if_neg c1, if_neg (fun h => c4 h.1), if_neg (fun h => c4 h.1)]
    rw [eG]
    have c4b : (t.kind == 4) = false := by simp [c4]
    have c1b : (t.kind == 1) = false := by simp [c1]
    simp only [go_sem, Nat.reduceOr, Nat.reducePow, Nat.reduceDiv, Nat.reduceMod, Nat.reduceBEq, Int.reduceBEq, Int.reduceBNe, Int.reduceEq, Int.reduceLT, Int.reduceLE, Int.reduceToNat, reduceIte, reduceCtorEq, Nat.reduceEqDiff, Nat.reduceAdd, Nat.reduceLT, Nat.reduceLeDiff, Nat.reduceMul, Nat.reduceSub, prsK, tmsK, hlt, hge, e1, List.length_map, hl, tokE, opened_run, opened_pan, next_run, next_pan, put_run, put_pan, fail_run, fail_pan, decX, decP, xs0, xsFn, xsTerm_dec, tms_dec, outU_error, outU_ok, outP_ok, outP_error, Except.map, hp, hq, h256, c1, c2, c4]

theorem en_operand (args : Array Value) (w : World) : (callFunc 141 args).run Tryd.prog w = .ok (.enter 141 args) w := by go_simp

def levelsP {N : Nat} (q : Part N) (hq : q.f = 141) : Part N :=
  eitherP (oddP (bothP (shiftP (sumP (productP q hq) rfl) rfl) rfl) rfl) rfl
theorem levelsP_F {N : Nat} {q : Part N} {hq : q.f = 141} : (levelsP q hq).F = fun l => levelsF l (q.F l) := rfl

theorem operandF_none {l : List Tok} {N : Nat} {s : PS} (h : l[s.at_]? = none) : operandF l N s = .error 90 := by
  cases N with
  | zero => rw [operandF]
  | succ N => rw [operandF, h]

/-- 'operand', where no token is left -/
def operand0 : Part 0 where
  f := 141
  F := fun l => operandF l 0
  spec := mkX _ _ _ Tryd.func141 rfl en_operand xs0 (qP 0) (fun _ l s => outU (operandF l 0 s)) (by rw [Tryd.ntmps141]; decide)
    (fun _ l s h => by
      have hl : l[s.at_]? = none := List.getElem?_eq_none_iff.2 (by have := h.1.rem; omega)
      rw [operandF_none hl]
      exact operand_none l s h hl)
  run_eq := fun _ _ _ => rfl
  pan_eq := fun _ _ _ => rfl
  goes := fun l => operandF_goes 0
  ne := by decide

def operandN {N : Nat} (q : Part N) (hq : q.f = 141) (hF : q.F = fun l => operandF l N) : Part (N + 1) where
  f := 141
  F := fun l => operandF l (N + 1)
  spec := mkX _ _ _ Tryd.func141 rfl en_operand xs0 (qP (N + 1)) (fun _ l s => outU (operandF l (N + 1) s)) (by rw [Tryd.ntmps141]; decide)
    (fun _ l s h => by
      rcases hl : l[s.at_]? with _ | t
      · rw [operandF_none hl]
        exact operand_none l s h hl
      · rw [operandF_some hl]
        have := operand_some (levelsP q hq) q rfl hq l s h t hl
        rw [levelsP_F, hF] at this
        exact this)
  run_eq := fun _ _ _ => rfl
  pan_eq := fun _ _ _ => rfl
  goes := fun l => operandF_goes (N + 1)
  ne := by decide

def operandP : (N : Nat) → { q : Part N // q.f = 141 ∧ q.F = fun l => operandF l N }
  | 0 => ⟨operand0, rfl, rfl⟩
  | N + 1 => ⟨operandN (operandP N).1 (operandP N).2.1 (operandP N).2.2, rfl, rfl⟩

/-- the parser's whole walk -/
def parseP (N : Nat) : Part N := levelsP (operandP N).1 (operandP N).2.1
theorem parseP_f (N : Nat) : (parseP N).f = 72 := rfl
theorem parseP_F (N : Nat) : (parseP N).F = fun l => levelsF l (operandF l N) := by
  rw [parseP, levelsP_F, (operandP N).2.2]

end Go.Proofs.YtcdbldakjepjiaaDoor.Ex

/-! ## N6 -/
namespace Go.Proofs.YtcdbldakjepjiaaDoor.Ex
open Go.RowKit

/-- what Parse answers -/
def outParse (l : List Tok) : PO :=
  match parseF l with
  | .ok s => .ret (.tup [.l (.d (.sd 3 (s.ts.map termR.enc))), .l (.v (.int .i64 s.at_)), .l (.v (.int .i64 0))])
  | .error e => .ret (.tup [.l (.v (.slice none 0 0)), .l (.v (.int .i64 0)), .l (.v (.int .i64 e))])

theorem en_parse1 (args : Array Value) (w : World) : (callFunc 71 args).run Tryd.prog w = .ok (.enter 71 args) w := by go_simp
theorem en_parse (args : Array Value) (w : World) : (callFunc 34 args).run Tryd.prog w = .ok (.enter 34 args) w := by go_simp

def c3K (a : LV) (b c : Int) : List Blk := [⟨true, 53, 1, [[a]]⟩, ⟨true, 3, 1, [[.v (.int .i64 b)]]⟩, ⟨true, 24, 1, [[.v (.int .i64 c)]]⟩]

/-- the three results' cells, and what hangs on them -/
structure Cells3 (s : St) (a : LV) (b c : Int) : Prop where
  h0 : hget s.h 0 = some ⟨true, 53, 1, [[a]]⟩
  h1 : hget s.h 1 = some ⟨true, 3, 1, [[.v (.int .i64 b)]]⟩
  h2 : hget s.h 2 = some ⟨true, 24, 1, [[.v (.int .i64 c)]]⟩

def ptrs3 (s : St) : Prop := tget s.t 2 = pv 0 0 0 ∧ tget s.t 3 = pv 1 0 0 ∧ tget s.t 4 = pv 2 0 0

set_option maxRecDepth 4000 in
set_option maxHeartbeats 4000000 in
theorem parse_does (l : List Tok) (hl : l.length ≤ 1000000) : Does Tryd.prog 34 Tryd.f34 ⟨0, zipT 0 [(tSl 4 tokR).enc l], []⟩ (outParse l) := by
  intro B w ρ al vals R hpl hds H hret _
  refine calls_defer (K := 3) (js := [0, 1, 2]) (cells := [(2, 0), (3, 1), (4, 2)]) (s1 := ⟨3, [(0, (tSl 4 tokR).enc l), (2, pv 0 0 0), (3, pv 1 0 0), (4, pv 2 0 0)], zipH 0 (c3K (.v (.slice none 0 0)) 0 0)⟩)
    (post := fun s => ptrs3 s ∧ ∃ s', parseF l = .ok s' ∧ ∃ tb, Cells3 s (.sl tb 0 s'.ts.length) s'.at_ 0 ∧ 3 ≤ tb ∧ hget s.h tb = some (tmsK s'.ts))
    (pp := fun x s => ptrs3 s ∧ ∃ e, parseF l = .error e ∧ x = faultV e ∧ Cells3 s (.v (.slice none 0 0)) 0 0)
    (post2 := fun s => retQ s.h (outParse l) (aRet Tryd.prog Tryd.f34.results.toList ⟨s.nx, [(2, pv 0 0 0), (3, pv 1 0 0), (4, pv 2 0 0)], s.h⟩))
    Tryd.func34 rfl Tryd.func71 rfl rfl rfl rfl rfl (by decide) (by decide) (by decide) (by decide) hpl hds H ?_
    (lays_closure rfl rfl rfl rfl rfl rfl (by decide) en_parse1 rfl) ?_ ?_ ?_ ?_ ?_ ?_ ?_
  · refine aRun_sound (ctx := []) 4000 ?_
    rw [Tryd.ntmps34]
    simp only [go_sem, Nat.reduceOr, Nat.reducePow, Nat.reduceDiv, Nat.reduceMod, Nat.reduceBEq, Int.reduceBEq, Int.reduceBNe, Int.reduceEq, Int.reduceLT, Int.reduceLE, Int.reduceToNat, reduceIte, reduceCtorEq, Nat.reduceEqDiff, Nat.reduceAdd, Nat.reduceLT, Nat.reduceLeDiff, Nat.reduceMul, Nat.reduceSub]
    exact Wk.renL [0, 16, 32] (by simp) (by simp) (by decide) rfl rfl
  · intro j hj
    match j, hj with
    | 0, _ => exact ⟨_, rfl⟩
    | 1, _ => exact ⟨_, rfl⟩
    | 2, _ => exact ⟨_, rfl⟩
  · refine sw_seq (aRun_sound (ctx := []) 4000 ?_)
    rw [Tryd.ntmps34]
    simp only [go_sem, Nat.reduceOr, Nat.reducePow, Nat.reduceDiv, Nat.reduceMod, Nat.reduceBEq, Int.reduceBEq, Int.reduceBNe, Int.reduceEq, Int.reduceLT, Int.reduceLE, Int.reduceToNat, reduceIte, reduceCtorEq, Nat.reduceEqDiff, Nat.reduceAdd, Nat.reduceLT, Nat.reduceLeDiff, Nat.reduceMul, Nat.reduceSub]
    refine SW.wk (s' := ⟨68, [(5, pv 35 0 0), (2, pv 0 0 0), (3, pv 1 0 0), (4, pv 2 0 0)], (35, some (prsK l 0 0 0 67)) :: (67, some (tmsK [])) :: zipH 0 (c3K (.v (.slice none 0 0)) 0 0)⟩) ?_
      ((Wk.nilC 35 3 91 3 rfl rfl rfl).trans (Wk.sub (Nat.le_refl _) rfl rfl))
    · refine aRun_sound (ctx := [⟨_, (parseP l.length).spec⟩]) 4000 ?_
      have hq : qP l.length () l ⟨0, 0, []⟩ := ⟨⟨Nat.zero_le _, by simp, by decide, by decide, by simp⟩, hl⟩
      rcases hr : parseF l with e | s'
      · have hr2 : levelsF l (operandF l l.length) ⟨0, 0, []⟩ = .error e := hr
        simp only [go_sem, Nat.reduceOr, Nat.reducePow, Nat.reduceDiv, Nat.reduceMod, Nat.reduceBEq, Int.reduceBEq, Int.reduceBNe, Int.reduceEq, Int.reduceLT, Int.reduceLE, Int.reduceToNat, reduceIte, reduceCtorEq, Nat.reduceEqDiff, Nat.reduceAdd, Nat.reduceLT, Nat.reduceLeDiff, Nat.reduceMul, Nat.reduceSub, prsK, tmsK, c3K, parseP_f, parseP_F, (parseP l.length).run_eq, (parseP l.length).pan_eq, decX, decP, xs0, tms_dec, decAll, hr2, hq, outU_error, outU_ok, outP_ok, outP_error]
        exact ⟨⟨rfl, rfl, rfl⟩, e, rfl, rfl, ⟨rfl, rfl, rfl⟩⟩
      · have hr2 : levelsF l (operandF l l.length) ⟨0, 0, []⟩ = .ok s' := hr
        simp only [go_sem, Nat.reduceOr, Nat.reducePow, Nat.reduceDiv, Nat.reduceMod, Nat.reduceBEq, Int.reduceBEq, Int.reduceBNe, Int.reduceEq, Int.reduceLT, Int.reduceLE, Int.reduceToNat, reduceIte, reduceCtorEq, Nat.reduceEqDiff, Nat.reduceAdd, Nat.reduceLT, Nat.reduceLeDiff, Nat.reduceMul, Nat.reduceSub, prsK, tmsK, c3K, parseP_f, parseP_F, (parseP l.length).run_eq, (parseP l.length).pan_eq, decX, decP, xs0, tms_dec, decAll, hr2, hq, outU_error, outU_ok, outP_ok, outP_error]
        refine sw_drawF (ctx := []) mixed ⟨[], [(8, [0]), (9, [1]), (10, [2])], [(4, [0]), (5, [0]), (6, [0]), (7, [0])]⟩ (by kernel_rfl) ?_
        simp only [go_sem, Nat.reduceOr, Nat.reducePow, Nat.reduceDiv, Nat.reduceMod, Nat.reduceBEq, Int.reduceBEq, Int.reduceBNe, Int.reduceEq, Int.reduceLT, Int.reduceLE, Int.reduceToNat, reduceIte, reduceCtorEq, Nat.reduceEqDiff, Nat.reduceAdd, Nat.reduceLT, Nat.reduceLeDiff, Nat.reduceMul, Nat.reduceSub, prsK, tmsK, c3K]
        exact ⟨⟨rfl, rfl, rfl⟩, s', rfl, 84, ⟨rfl, rfl, rfl⟩, by decide, rfl⟩
  · rintro s ⟨⟨e1, e2, e3⟩, _⟩ p hp
    simp only [List.mem_cons, List.not_mem_nil, or_false] at hp
    rcases hp with rfl | rfl | rfl
    · exact e1
    · exact e2
    · exact e3
  · rintro x s ⟨⟨e1, e2, e3⟩, _⟩ p hp
    simp only [List.mem_cons, List.not_mem_nil, or_false] at hp
    rcases hp with rfl | rfl | rfl
    · exact e1
    · exact e2
    · exact e3
  · rintro s ⟨-, s', hr, tb, hc, h3, ht⟩
    refine aRun_sound (ctx := []) 4000 ?_
    rw [Tryd.ntmps71, Tryd.results34]
    have hb := @pure_nil_nil Tryd.prog 20 .nilIface (.tmp 6) kt_20
    have hm : mapT (mapT (LV.toD s.h 3)) ((tmsK s'.ts).els.take s'.ts.length) = some (True, [], s'.ts.map termR.enc) := by
      rw [List.take_of_length_le (by simp [tmsK])]
      exact rows_ofDs
    have ho : (tmsK s'.ts).own = true := rfl
    have hz : (tmsK s'.ts).sz = 3 := rfl
    have hlen : s'.ts.length ≤ (tmsK s'.ts).els.length := by simp [tmsK]
    simp only [go_sem, Nat.reduceOr, Nat.reducePow, Nat.reduceDiv, Nat.reduceMod, Nat.reduceBEq, Int.reduceBEq, Int.reduceBNe, Int.reduceEq, Int.reduceLT, Int.reduceLE, Int.reduceToNat, reduceIte, reduceCtorEq, Nat.reduceEqDiff, Nat.reduceAdd, Nat.reduceLT, Nat.reduceLeDiff, Nat.reduceMul, Nat.reduceSub, pvs, ↓hb, hc.h0, hc.h1, hc.h2, outParse, hr, ht, AV.toD, SV.toD, LV.toD, ho, hz, hm, hlen]
  · rintro x s ⟨-, e, hr, rfl, hc⟩
    have hwk : Wk ⟨none, 3⟩ ⟨s.nx, (6, .s (.l (.v (faultV e)))) :: zipT 0 (pvs [0, 1, 2]), s.h⟩ ⟨3, (6, .s (.l (.v (faultV e)))) :: zipT 0 (pvs [0, 1, 2]), zipH 0 (c3K (.v (.slice none 0 0)) 0 0)⟩ := by
      refine Wk.renL [0, 1, 2] (by decide) (Nat.le_refl 3) (by decide) rfl ?_
      simp only [c3K, zipH, List.map_cons, List.map_nil, List.getD_eq_getElem?_getD, List.getElem?_cons_zero, List.getElem?_cons_succ, Option.getD_some, hc.h0, hc.h1, hc.h2]
      rfl
    refine SW.wk ?_ hwk
    refine aRun_sound (ctx := []) 4000 ?_
    rw [Tryd.ntmps71, Tryd.results34]
    have hb : ∀ u v, _ := fun u v => @pure_iface_nil Tryd.prog 20 u v .nilIface (.tmp 6) kt_20
    have hs : svOf (.agg #[.int .i64 e]) = some (.agg [.v (.int .i64 e)]) := rfl
    simp only [go_sem, Nat.reduceOr, Nat.reducePow, Nat.reduceDiv, Nat.reduceMod, Nat.reduceBEq, Int.reduceBEq, Int.reduceBNe, Int.reduceEq, Int.reduceLT, Int.reduceLE, Int.reduceToNat, reduceIte, reduceCtorEq, Nat.reduceEqDiff, Nat.reduceAdd, Nat.reduceLT, Nat.reduceLeDiff, Nat.reduceMul, Nat.reduceSub, pvs, ↓hb, hs, faultV, aAssert, c3K]
    refine sw_drawF (ctx := []) mixed ⟨[], [(2, [0]), (3, [1]), (4, [2])], [(0, [0, 1]), (1, [0, 1])]⟩ (by kernel_rfl) ?_
    simp only [go_sem, Nat.reduceOr, Nat.reducePow, Nat.reduceDiv, Nat.reduceMod, Nat.reduceBEq, Int.reduceBEq, Int.reduceBNe, Int.reduceEq, Int.reduceLT, Int.reduceLE, Int.reduceToNat, reduceIte, reduceCtorEq, Nat.reduceEqDiff, Nat.reduceAdd, Nat.reduceLT, Nat.reduceLeDiff, Nat.reduceMul, Nat.reduceSub, outParse, hr]
  · intro s ρ al a w1 h2 H2
    exact hret _ ρ al a w1 h2 H2

end Go.Proofs.YtcdbldakjepjiaaDoor.Ex
