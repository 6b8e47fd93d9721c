/- The parser of package expr: fail, next, put, sign. The parser of package expr: opened, row. The parser of package expr: the levels, operand. The parser of package expr: operand. The parser of package expr: Parse. -/
import Derived.Test.YthcoegkfpinlfaaGreatDoorJ11
import Derived.Test.YthcoegkfpinlfaaGreatDoorJ23
import Derived.Test.YthcoegkfpinlfaaGreatDoorJ29
/-! ## N2 -/
set_option linter.unusedVariables false
set_option linter.unusedSimpArgs false
namespace Go.Proofs.YthcoegkfpinlfaaGreatDoor.Ex
open Go.RowKit

def j0 : mW Term where
  dec := fun | [.v (.int .i64 k), .v (.int .i64 n), .v (.string s)] => some ⟨k, n, s⟩ | _ => none
  enc := fun t => [.v (.int .i64 t.kind), .v (.int .i64 t.n), .v (.string t.sym)]
  inv := by
    intro c x h
    split at h
    · injection h with h; subst h; rfl
    · cases h
  back := by intro x; rfl

/-- a fault -/
def mQ (e : Int) : Value := .iface 176 (.agg #[.int .i64 e])

/-! fail -/
theorem Nk (args : Array Value) (w : World) : (callFunc 192 args).run Tryz.prog w = .ok (.enter 192 args) w := by go_simp
def xR : bq Tryz.prog 192 :=
  mk1 _ _ _ Tryz.func192 rfl Nk (bA .i64) ((fun _ => True)) ((fun e => .pan (mQ e))) (by rw [Tryz.ntmps192]; decide) (fun e _ => by
  refine ab (ctx := []) 4000 ?_
  rw [Tryz.ntmps192, Tryz.results192]
  simp only [Tryz.f192, Option.getD_some, aw]
  simp only [go_sem, mQ])
theorem dq {id : Nat} {h : ag} {args : List AV} : (xR).run id h args = bV (aI (bA .i64) ((fun _ => True))) ((fun e => .pan (mQ e))) h args := rfl
theorem dp {id : Nat} {h : ag} {args : List AV} : (xR).pan id h args = ca (aI (bA .i64) ((fun _ => True))) ((fun e => .pan (mQ e))) h args := rfl

/-! sign -/
set_option maxHeartbeats 2000000 in
theorem Ah (k : Int) (h : 3 ≤ k ∧ k ≤ 14) : SW Tryz.prog ⟨none, 0⟩ Tryz.f184.ntmps (Tryz.f184.body.getD .skip) ⟨0, aw 0 [(bA .i64).enc k], []⟩ (eK Tryz.prog Tryz.f184.results.toList (.ret (sv (eC k)))) := by
  refine ab (ctx := []) 4000 ?_
  rw [Tryz.ntmps184, Tryz.results184]
  simp only [Tryz.f184, Option.getD_some, aw]
  have hk : k = 3 ∨ k = 4 ∨ k = 5 ∨ k = 6 ∨ k = 7 ∨ k = 8 ∨ k = 9 ∨ k = 10 ∨ k = 11 ∨ k = 12 ∨ k = 13 ∨ k = 14 := by omega
  rcases hk with rfl | rfl | rfl | rfl | rfl | rfl | rfl | rfl | rfl | rfl | rfl | rfl
  all_goals simp only [go_sem]
  all_goals rfl

theorem PD (args : Array Value) (w : World) : (callFunc 184 args).run Tryz.prog w = .ok (.enter 184 args) w := by go_simp
def Ok : bq Tryz.prog 184 :=
  mk1 _ _ _ Tryz.func184 rfl PD (bA .i64) ((fun k => 3 ≤ k ∧ k ≤ 14)) ((fun k => .ret (sv (eC k)))) (by rw [Tryz.ntmps184]; decide) (fun k h => Ah k h)
theorem Om {id : Nat} {h : ag} {args : List AV} : (Ok).run id h args = bV (aI (bA .i64) ((fun k => 3 ≤ k ∧ k ≤ 14))) ((fun k => .ret (sv (eC k)))) h args := rfl
theorem Ol {id : Nat} {h : ag} {args : List AV} : (Ok).pan id h args = ca (aI (bA .i64) ((fun k => 3 ≤ k ∧ k ≤ 14))) ((fun k => .ret (sv (eC k)))) h args := rfl

/-! The parser's blocks: itself, its terms -/
def co (l : List Tok) (a : Nat) (o : Int) (n tb : Nat) : Blk := ⟨true, 179, 4, [[.d (.sd 4 (l.map mg.enc)), .v (.int .i64 a), .v (.int .i64 o), .sl tb 0 n]]⟩
def bR (ts : List Term) : Blk := ⟨true, 183, 3, (ts.map j0.enc).map dj⟩

def m8 : List LV → Option Term
  | [.v (.int .i64 k), .v (.int .i64 n), .v (.string s)] => some ⟨k, n, s⟩
  | _ => none
theorem bN (ts : List Term) : dA m8 ((ts.map j0.enc).map dj) = some ts := by
  rw [List.map_map]
  exact qR (d := m8) (e := dj ∘ j0.enc) (fun _ => rfl) ts
theorem Ov {rows : List (List LV)} {ts : List Term} (h : dA m8 rows = some ts) : rows = (ts.map j0.enc).map dj := by
  rw [List.map_map]
  refine lL (d := m8) (e := dj ∘ j0.enc) (fun c x hc => ?_) h
  unfold m8 at hc
  split at hc
  · injection hc with hc; subst hc; rfl
  · cases hc

def fI (h : ag) : AV → Option (List Nat × List Tok × PS)
  | .s (.l (.p b 0 0)) => match aq h b with
    | some ⟨true, T, 4, [[.d (.sd 4 els), .v (.int .i64 a), .v (.int .i64 o), .sl tb 0 n]]⟩ => match kA mg.dec els, aq h tb with
      | some l, some ⟨true, T2, 3, rows⟩ => match dA m8 rows with
        | some ts => if T = 179 ∧ T2 = 183 ∧ 0 ≤ a ∧ n = ts.length ∧ b ≠ tb then some ([b, tb], l, ⟨a.toNat, o, ts⟩) else none
        | none => none
      | _, _ => none
    | _ => none
  | _ => none

theorem FE {h : ag} {A : AV} {bs : List Nat} {l : List Tok} {s : PS} (hd : fI h A = some (bs, l, s)) :
    ∃ b tb, A = pv b 0 0 ∧ bs = [b, tb] ∧ b ≠ tb ∧ aq h b = some (co l s.at_ s.op s.ts.length tb) ∧ aq h tb = some (bR s.ts) := by
  unfold fI at hd
  split at hd
  case h_2 => cases hd
  rename_i b
  split at hd
  case h_2 => cases hd
  rename_i T els a o tb n hb
  split at hd
  case h_2 => cases hd
  rename_i l' T2 rows hl ht
  split at hd
  case h_2 => cases hd
  rename_i ts hts
  split at hd
  case isFalse => cases hd
  rename_i hc
  obtain ⟨rfl, rfl, ha, rfl, hne⟩ := hc
  injection hd with hd
  injection hd with e1 hd
  injection hd with e2 e3
  subst e1
  subst e2
  subst e3
  refine ⟨b, tb, rfl, rfl, hne, ?_, ?_⟩
  · rw [hb, co, ← mr mg hl]
    simp only [Int.toNat_of_nonneg ha]
  · rw [ht, bR, Ov hts]

theorem xN {h h' : ag} (hs : ∀ b k, aq h b = some k → aq h' b = some k) {A : AV} {r : List Nat × List Tok × PS} (hd : fI h A = some r) : fI h' A = some r := by
  unfold fI at hd ⊢
  split at hd
  case h_2 => cases hd
  split at hd
  case h_2 => cases hd
  rename_i hb
  simp only [hs _ _ hb]
  split at hd
  case h_2 => cases hd
  rename_i hl ht
  simp only [hl, hs _ _ ht]
  exact hd

/-- what a part of the parser ends with -/
def jy (l : List Tok) : Except Int (AV × PS) → RO
  | .ok (r, s) => .ret r [some (co l s.at_ s.op s.ts.length 1)] [bR s.ts]
  | .error e => .pan (mQ e)

theorem bK {l : List Tok} {r : AV} {s : PS} : jy l (.ok (r, s)) = .ret r [some (co l s.at_ s.op s.ts.length 1)] [bR s.ts] := rfl
theorem aJ {l : List Tok} {e : Int} : jy l (.error e) = .pan (mQ e) := rfl

/-- the arguments behind the parser: such as hang on no block -/
structure Xs (X : Type) where
  dec : List AV → Option X
  enc : X → List AV
  len : Nat
  enc_len : ∀ x, (enc x).length = len
  ok : ∀ {zs : List AV} {x : X}, dec zs = some x → ∀ {ρ ρ' : Nat → Loc} {al al' : Al} {vals : List Value}, al.M.le al'.M → AsRep ρ al zs vals → AsRep ρ' al' (enc x) vals

def gT {X : Type} (T : Xs X) (q : X → List Tok → PS → Prop) (h : ag) : List AV → Option (Prop × List Nat × (X × List Tok × PS))
  | A :: zs => match fI h A, T.dec zs with
    | some (bs, l, s), some x => some (q x l s, bs, (x, l, s))
    | _, _ => none
  | [] => none

/-- A part of the parser. -/
def mkX {X : Type} (f : FuncId) (fn : Func) (c : Code) (hf : Tryz.prog.funcs[f]? = some fn) (hb : fn.body = some c)
    (hen : ∀ (args : Array Value) (w : World), (callFunc f args).run Tryz.prog w = .ok (.enter f args) w) (T : Xs X) (q : X → List Tok → PS → Prop) (F : X → List Tok → PS → Except Int (AV × PS)) (hn : T.len + 1 ≤ fn.ntmps)
    (body : ∀ x l s, q x l s → SW Tryz.prog ⟨none, 1⟩ fn.ntmps c ⟨2, aw 0 (pv 0 0 0 :: T.enc x), cu 0 [co l s.at_ s.op s.ts.length 1, bR s.ts]⟩ (ji Tryz.prog fn.results.toList 1 (jy l (F x l s)))) : bq Tryz.prog f :=
  mkR 1 2 (by decide) f fn c hf hb hen (gT T q) (fun x => pv 0 0 0 :: T.enc x.1) (fun x => [co x.2.1 x.2.2.at_ x.2.2.op x.2.2.ts.length 1, bR x.2.2.ts]) (fun x => jy x.2.1 (F x.1 x.2.1 x.2.2))
    (by
      intro h h' args r hs hd
      unfold gT at hd ⊢
      split at hd
      · split at hd
        · rename_i h1 h2
          rw [xN hs h1, h2]
          exact hd
        · cases hd
      · cases hd)
    (by
      intro h zs q' bs x hd hq
      unfold gT at hd
      split at hd
      case h_2 => cases hd
      rename_i A zs'
      split at hd
      case h_2 => cases hd
      rename_i bs' l s x' h1 h2
      injection hd with hd
      injection hd with e1 hd
      injection hd with e2 e3
      subst e2
      subst e3
      obtain ⟨b, tb, rfl, rfl, hne, hb1, hb2⟩ := FE h1
      refine ⟨by rw [List.length_cons, T.enc_len]; exact hn, rfl, rfl, by simp [hne], fun d => ⟨?_, ?_⟩⟩
      · intro j b' k hj hk
        match j, hj, hk with
        | 0, hj, hk =>
          simp at hj hk
          subst hj
          subst hk
          exact ⟨rfl, by rw [hb1]; rfl⟩
        | 1, hj, hk =>
          simp at hj hk
          subst hj
          subst hk
          refine ⟨rfl, ?_⟩
          rw [hb2]
          simp only [bR, Blk.ren, ff]
      · intro ρ al vals hA
        match vals, hA with
        | v :: vs, ⟨a, r⟩ => exact ⟨a, T.ok (al := al) h2 (Mem.le_refl _) r⟩)
    (by
      intro h zs q' bs x hd hq
      unfold gT at hd
      split at hd
      case h_2 => cases hd
      split at hd
      case h_2 => cases hd
      injection hd with hd
      injection hd with e1 hd
      injection hd with e2 e3
      subst e1
      subst e3
      exact body _ _ _ hq)

def xs0 : Xs Unit where
  dec := fun | [] => some () | _ => none
  enc := fun _ => []
  len := 0
  enc_len := fun _ => rfl
  ok := by
    intro zs x h ρ ρ' al al' vals _ hA
    split at h
    · match vals, hA with
      | [], _ => trivial
    · cases h
def Ar : Xs Term where
  dec := fun | [A] => (jZ j0).dec A | _ => none
  enc := fun t => [(jZ j0).enc t]
  len := 1
  enc_len := fun _ => rfl
  ok := by
    intro zs x h ρ ρ' al al' vals hM hA
    split at h
    · match vals, hA with
      | [v], ⟨a, _⟩ => exact ⟨((jZ j0).ok h a).flat hM (by rfl), trivial⟩
    · cases h

/-! next -/
theorem Q4 (t : Term) : j0.enc t = [.v (.int .i64 t.kind), .v (.int .i64 t.n), .v (.string t.sym)] := rfl
theorem QR {l : List Tok} {a : Nat} {o : Int} {n tb : Nat} : (co l a o n tb).own = true := rfl
theorem Q6 {ts : List Term} : (bR ts).own = true := rfl

/-- the end: the parser's two blocks as they are now -/
theorem jO {l : List Tok} {s' : PS} {r : AV} {st : St} {tb : Nat} (hr : r.plain = true) (h1 : aq st.h 0 = some (co l s'.at_ s'.op s'.ts.length tb)) (h2 : aq st.h tb = some (bR s'.ts)) (hn : tb ≠ 0) :
    tL 1 st (jy l (.ok (r, s'))) (some r) := by
  refine ⟨hr, [some (co l s'.at_ s'.op s'.ts.length 1)], [bR s'.ts], rfl, rfl, by simp, by simp [co], by simp [bR], Wk.ren [0, tb] (by intro j hj; have : j = 0 := (by simpa using hj); subst this; rfl) (Nat.le_refl _) (by simpa using fun h => hn h.symm) (fun p hp => by cases hp) ?_⟩
  intro p hp k hk
  simp only [gM, cu, List.cons_append, List.nil_append, List.mem_cons, List.not_mem_nil, or_false] at hp
  rcases hp with rfl | rfl
  · simp only [Option.some.injEq] at hk
    subst hk
    simp only [List.getD_eq_getElem?_getD, List.getElem?_cons_zero, Option.getD_some, h1]
    rfl
  · simp only [Option.some.injEq] at hk
    subst hk
    simp only [List.getD_eq_getElem?_getD, List.getElem?_cons_succ, List.getElem?_cons_zero, Option.getD_some, h2]
    simp only [bR, Blk.ren, ff]

set_option maxHeartbeats 1000000 in
theorem NO (l : List Tok) (s : PS) (h : s.at_ ≤ l.length ∧ l.length ≤ maxLen) : SW Tryz.prog ⟨none, 1⟩ Tryz.f183.ntmps (Tryz.f183.body.getD .skip) ⟨2, aw 0 [pv 0 0 0], cu 0 [co l s.at_ s.op s.ts.length 1, bR s.ts]⟩ (ji Tryz.prog Tryz.f183.results.toList 1 (jy l (.ok (sv (cT l s), s)))) := by
  refine ab (ctx := []) 4000 ?_
  rw [Tryz.ntmps183, Tryz.results183]
  simp only [Tryz.f183, Option.getD_some, aw]
  simp only [go_sem, co, bR]
  rcases hl : l[s.at_]? with _ | t
  · have hlt : ¬ (s.at_ : Int) < l.length := by have := List.getElem?_eq_none_iff.1 hl; omega
    refine cr (ctx := []) mixed [] (by kernel_rfl) ?_
    simp only [go_sem, hlt, List.length_map]
    have e : cT l s = ⟨#[]⟩ := by unfold cT; rw [hl]; rfl
    rw [e]
    exact jO rfl rfl rfl (by decide)
  · have hlt : (s.at_ : Int) < l.length := by have := (List.getElem?_eq_some_iff.1 hl).1; omega
    refine cr (ctx := []) mixed [] (by kernel_rfl) ?_
    simp only [go_sem, hlt, List.length_map, hl, oT]
    refine ⟨fun hk => ?_, fun hk => ?_⟩
    · refine cr (ctx := []) mixed [] (by kernel_rfl) ?_
      simp only [go_sem, hlt, List.length_map, hl, oT]
      have e : cT l s = t.text := by unfold cT; rw [hl]; simp only [if_pos hk]
      rw [e]
      exact jO rfl rfl rfl (by decide)
    · have e : cT l s = ⟨#[]⟩ := by unfold cT; rw [hl]; simp only [if_neg hk]; rfl
      rw [e]
      exact jO rfl rfl rfl (by decide)

theorem Nl (args : Array Value) (w : World) : (callFunc 183 args).run Tryz.prog w = .ok (.enter 183 args) w := by go_simp
def BI : bq Tryz.prog 183 :=
  mkX _ _ _ Tryz.func183 rfl Nl xs0 ((fun _ l s => s.at_ ≤ l.length ∧ l.length ≤ maxLen)) ((fun _ l s => .ok (sv (cT l s), s))) (by rw [Tryz.ntmps183]; decide) (fun _ l s h => NO l s h)
theorem eJ {id : Nat} {h : ag} {args : List AV} : (BI).run id h args = mj 1 (gT xs0 ((fun _ l s => s.at_ ≤ l.length ∧ l.length ≤ maxLen))) (fun x => jy x.2.1 (((fun _ l s => .ok (sv (cT l s), s))) x.1 x.2.1 x.2.2)) id h args := rfl
theorem eI {id : Nat} {h : ag} {args : List AV} : (BI).pan id h args = lp (gT xs0 ((fun _ l s => s.at_ ≤ l.length ∧ l.length ≤ maxLen))) (fun x => jy x.2.1 (((fun _ l s => .ok (sv (cT l s), s))) x.1 x.2.1 x.2.2)) h args := rfl

/-! put -/
theorem Mj {ts : List Term} {t : Term} : (ts.map j0.enc).map dj ++ [[.v (.int .i64 t.kind), .v (.int .i64 t.n), .v (.string t.sym)]] = ((ts ++ [t]).map j0.enc).map dj := by
  rw [List.map_append, List.map_append]; rfl

set_option maxHeartbeats 1000000 in
theorem P7 (t : Term) (l : List Tok) (s : PS) (h : s.ts.length ≤ 256) : SW Tryz.prog ⟨none, 1⟩ Tryz.f185.ntmps (Tryz.f185.body.getD .skip) ⟨2, aw 0 [pv 0 0 0, (jZ j0).enc t], cu 0 [co l s.at_ s.op s.ts.length 1, bR s.ts]⟩ (ji Tryz.prog Tryz.f185.results.toList 1 (jy l ((jz t s).map fun s => (mF, s)))) := by
  refine ab (ctx := [⟨_, xR⟩]) 4000 ?_
  rw [Tryz.ntmps185, Tryz.results185]
  simp only [Tryz.f185, Option.getD_some, aw]
  have hb : (s.ts.length + 1) * 32 ≤ 140737488355328 := by omega
  have hm : s.ts.length + 1 ≤ maxLen := by unfold maxLen; omega
  simp only [go_sem, co, bR, Q4]
  refine cr (ctx := []) mixed [7, 10] (by kernel_rfl) ?_
  simp only [go_sem, hb, hm, Mj, dq, dp]
  refine ⟨fun hc => ?_, fun hc => ?_⟩
  · rw [jz, if_pos (by omega)]; rfl
  · rw [jz, if_neg (by omega)]
    refine jO (s' := { s with ts := s.ts ++ [t] }) (tb := 130) rfl ?_ rfl (by decide)
    rw [List.length_append]; rfl

theorem PB (args : Array Value) (w : World) : (callFunc 185 args).run Tryz.prog w = .ok (.enter 185 args) w := by go_simp
def Lg : bq Tryz.prog 185 :=
  mkX _ _ _ Tryz.func185 rfl PB Ar ((fun _ _ s => s.ts.length ≤ 256)) ((fun t _ s => (jz t s).map fun s => (mF, s))) (by rw [Tryz.ntmps185]; decide) (fun t l s h => P7 t l s h)
theorem fN {id : Nat} {h : ag} {args : List AV} : (Lg).run id h args = mj 1 (gT Ar ((fun _ _ s => s.ts.length ≤ 256))) (fun x => jy x.2.1 (((fun t _ s => (jz t s).map fun s => (mF, s))) x.1 x.2.1 x.2.2)) id h args := rfl
theorem fM {id : Nat} {h : ag} {args : List AV} : (Lg).pan id h args = lp (gT Ar ((fun _ _ s => s.ts.length ≤ 256))) (fun x => jy x.2.1 (((fun t _ s => (jz t s).map fun s => (mF, s))) x.1 x.2.1 x.2.2)) h args := rfl

end Go.Proofs.YthcoegkfpinlfaaGreatDoor.Ex

/-! ## N3 -/
namespace Go.Proofs.YthcoegkfpinlfaaGreatDoor.Ex
open Go.RowKit

/-- what a part of the parser that has no result does -/
def jU (r : PR) : Except Int (AV × PS) := r.map fun s => (mF, s)
theorem bO {s : PS} : jU (.ok s) = .ok (mF, s) := rfl
theorem aP {e : Int} : jU (.error e) = .error e := rfl

/-- so many tokens, at most N left -/
def qP (N : Nat) : Unit → List Tok → PS → Prop := fun _ l s => POk l N s ∧ l.length ≤ 1000000

/-- A part of the parser that reads where at most N tokens are left. -/
structure gY (N : Nat) where
  f : FuncId
  F : List Tok → PS → PR
  spec : bq Tryz.prog f
  run_eq : ∀ (id : Nat) (h : ag) (args : List AV), spec.run id h args = mj 1 (gT xs0 (qP N)) (fun x => jy x.2.1 (jU (F x.2.1 x.2.2))) id h args
  pan_eq : ∀ (id : Nat) (h : ag) (args : List AV), spec.pan id h args = lp (gT xs0 (qP N)) (fun x => jy x.2.1 (jU (F x.2.1 x.2.2))) h args
  goes : ∀ l, Au l N (F l)
  ne : f ≠ 192 ∧ f ≠ 183 ∧ f ≠ 185 ∧ f ≠ 184

def pc : Xs FuncId where
  dec := fun | [A] => tFn.dec A | _ => none
  enc := fun g => [tFn.enc g]
  len := 1
  enc_len := fun _ => rfl
  ok := by
    intro zs x h ρ ρ' al al' vals hM hA
    split at h
    · match vals, hA with
      | [v], ⟨a, _⟩ => exact ⟨(tFn.ok h a).flat hM (by rfl), trivial⟩
    · cases h

theorem Aq {s : PS} {l : List Tok} (h1 : s.at_ ≤ l.length) (h2 : l.length ≤ 1000000) : IntKind.i64.wrap ((s.at_ : Int) + 1) = ((s.at_ + 1 : Nat) : Int) := by rw [IntKind.wrap_i64]; omega

set_option maxHeartbeats 1000000 in
theorem yy {N : Nat} (p : gY N) (l : List Tok) (s : PS) (h : POk l (N + 1) s ∧ s.at_ < l.length ∧ l.length ≤ 1000000) :
    SW Tryz.prog ⟨none, 1⟩ Tryz.f197.ntmps (Tryz.f197.body.getD .skip) ⟨2, aw 0 [pv 0 0 0, tFn.enc p.f], cu 0 [co l s.at_ s.op s.ts.length 1, bR s.ts]⟩ (ji Tryz.prog Tryz.f197.results.toList 1 (jy l (jU (dV (p.F l) s)))) := by
  obtain ⟨hok, hlt, hlen⟩ := h
  obtain ⟨n1, n2, n3, n4⟩ := p.ne
  refine ab (ctx := [⟨_, p.spec⟩, ⟨_, xR⟩]) 4000 ?_
  rw [Tryz.ntmps197, Tryz.results197]
  simp only [Tryz.f197, Option.getD_some, aw]
  have e1 := Aq hok.le hlen
  have o0 := hok.op0
  have o1 := hok.op1
  have e2 : IntKind.i64.wrap (s.op + 1) = s.op + 1 := by rw [IntKind.wrap_i64]; omega
  by_cases hc : 64 < s.op + 1
  · simp only [go_sem, co, bR, e1, e2, hc, dq, dp, n1]
    rw [dV, if_pos hc]; rfl
  · have hp : qP N () l ⟨s.at_ + 1, s.op + 1, s.ts⟩ := ⟨⟨by show s.at_ + 1 ≤ _; omega, by have := hok.rem; show _ ≤ s.at_ + 1 + N; omega, by show 0 ≤ s.op + 1; omega, by show s.op + 1 ≤ 64; omega, hok.ts⟩, hlen⟩
    rcases hr : p.F l ⟨s.at_ + 1, s.op + 1, s.ts⟩ with e | s'
    · simp only [go_sem, co, bR, e1, e2, hc, dq, dp, n1, p.run_eq, p.pan_eq, gT, fI, xs0, bN, hr, hp, aP, bO, bK, aJ]
      rw [dV, if_neg hc, hr]; rfl
    · have hg := p.goes l _ _ hp.1 hr
      simp only at hg
      have e3 : IntKind.i64.wrap (s'.op - 1) = s'.op - 1 := by rw [IntKind.wrap_i64]; omega
      simp only [go_sem, co, bR, e1, e2, hc, dq, dp, n1, p.run_eq, p.pan_eq, gT, fI, xs0, bN, hr, hp, aP, bO, bK, aJ, e3]
      rw [dV, if_neg hc, hr]
      exact jO (s' := { s' with op := s'.op - 1 }) (tb := 370) rfl rfl rfl (by decide)

theorem He (args : Array Value) (w : World) : (callFunc 197 args).run Tryz.prog w = .ok (.enter 197 args) w := by go_simp

/-- 'opened' with either of two parts to read -/
def zS {N : Nat} (p q : gY N) : bq Tryz.prog 197 :=
  mkX _ _ _ Tryz.func197 rfl He pc (fun g l s => (g = p.f ∨ g = q.f) ∧ POk l (N + 1) s ∧ s.at_ < l.length ∧ l.length ≤ 1000000)
    (fun g l s => jU (dV (if g = p.f then p.F l else q.F l) s)) (by rw [Tryz.ntmps197]; decide)
    (fun g l s h => by
      by_cases hg : g = p.f
      · subst hg; rw [if_pos rfl]; exact yy p l s h.2
      · rw [if_neg hg]
        obtain rfl : g = q.f := h.1.resolve_left hg
        exact yy q l s h.2)
theorem dl {N : Nat} {p q : gY N} {id : Nat} {h : ag} {args : List AV} : (zS p q).run id h args = mj 1 (gT pc (fun g l s => (g = p.f ∨ g = q.f) ∧ POk l (N + 1) s ∧ s.at_ < l.length ∧ l.length ≤ 1000000)) (fun x => jy x.2.1 (jU (dV (if x.1 = p.f then p.F x.2.1 else q.F x.2.1) x.2.2))) id h args := rfl
theorem dk {N : Nat} {p q : gY N} {id : Nat} {h : ag} {args : List AV} : (zS p q).pan id h args = lp (gT pc (fun g l s => (g = p.f ∨ g = q.f) ∧ POk l (N + 1) s ∧ s.at_ < l.length ∧ l.length ≤ 1000000)) (fun x => jy x.2.1 (jU (dV (if x.1 = p.f then p.F x.2.1 else q.F x.2.1) x.2.2))) h args := rfl

/-! row -/
theorem cF {k n : Int} {z : ByteArray} : Ar.dec [.s (.agg [.v (.int .i64 k), .v (.int .i64 n), .v (.string z)])] = some ⟨k, n, z⟩ := rfl
theorem wkP {st : St} {l : List Tok} {q : PS} {X : dY} {tb : Nat} (h1 : aq st.h 0 = some (co l q.at_ q.op q.ts.length tb)) (h2 : aq st.h tb = some (bR q.ts)) (hn : tb ≠ 0) (hx : 2 ≤ st.nx) (hX : X.map (fun p => cE st.t p.1) = X.map fun p => p.2.ren fun b => [0, tb].getD b st.nx) : Wk ⟨none, 1⟩ st ⟨2, X, cu 0 [co l q.at_ q.op q.ts.length 1, bR q.ts]⟩ := by
  refine Wk.ren [0, tb] (by intro j hj; have : j = 0 := (by simpa using hj); subst this; rfl) (Nat.le_refl _) (by simpa using fun h => hn h.symm) (fun p hp => List.map_inj_left.1 hX p hp) ?_
  intro p hp k hk
  simp only [cu, List.mem_cons, List.not_mem_nil, or_false] at hp
  rcases hp with rfl | rfl
  · simp only [Option.some.injEq] at hk
    subst hk
    simp only [List.getD_eq_getElem?_getD, List.getElem?_cons_zero, Option.getD_some, h1]
    rfl
  · simp only [Option.some.injEq] at hk
    subst hk
    simp only [List.getD_eq_getElem?_getD, List.getElem?_cons_succ, List.getElem?_cons_zero, Option.getD_some, h2]
    simp only [bR, Blk.ren, ff]

theorem tG {s : ByteArray} : ∀ {a : List Int} {k f : Int}, cf s (a ++ [k]) f = if s ≠ emp ∧ s = eC k then k else cf s a f
  | [], k, f => by rw [List.nil_append, cf, cf, cf]
  | x :: a, k, f => by rw [List.cons_append, cf, tG, cf]

theorem EQ {l : List Tok} {read : PS → PR} {kinds : List Int} {q : PS} : ∀ {m : Nat}, l.length ≤ q.at_ + m → eB l read kinds m q =
    if cf (cT l q) kinds 0 = 0 then .ok q else
    match read ⟨q.at_ + 1, q.op, q.ts⟩ with
    | .error e => .error e
    | .ok s' => match jz ⟨cf (cT l q) kinds 0, 0, emp⟩ s' with
      | .error e => .error e
      | .ok s'' => eB l read kinds (m - 1) s''
  | 0, h => by
    have : cf (cT l q) kinds 0 = 0 := Classical.byContradiction fun hc => by have := rW (sL hc); omega
    rw [if_pos this, eB]
  | m + 1, h => by rw [eB]; rfl

set_option maxHeartbeats 2000000 in
theorem Qa {N : Nat} (p : gY N) (kinds : List Int) (hk : ∀ k ∈ kinds, 3 ≤ k ∧ k ≤ 14) (hk2 : kinds.length ≤ 10) (l : List Tok) (s : PS) (h : qP N () l s) :
    SW Tryz.prog ⟨none, 1⟩ Tryz.f171.ntmps (Tryz.f171.body.getD .skip) ⟨2, aw 0 [pv 0 0 0, tFn.enc p.f, (tSl 1 (xq .i64)).enc kinds], cu 0 [co l s.at_ s.op s.ts.length 1, bR s.ts]⟩ (ji Tryz.prog Tryz.f171.results.toList 1 (jy l (jU (dW l (p.F l) kinds s)))) := by
  obtain ⟨hok, hlen⟩ := h
  obtain ⟨n1, n2, n3, n4⟩ := p.ne
  refine ab (ctx := [⟨_, p.spec⟩]) 4000 ?_
  rw [Tryz.ntmps171, Tryz.results171]
  simp only [Tryz.f171, Option.getD_some, aw]
  have hq : qP N () l s := ⟨hok, hlen⟩
  rcases hr : p.F l s with e | s'
  · simp only [go_sem, co, bR, p.run_eq, p.pan_eq, gT, fI, xs0, bN, hr, hq, aP, bO, bK, aJ]
    rw [dW, hr]; rfl
  · have hg := p.goes l _ _ hok hr
    simp only [go_sem, co, bR, p.run_eq, p.pan_eq, gT, fI, xs0, bN, hr, hq, aP, bO, bK, aJ]
    refine dG (ι := Nat × PS) (fun i => l.length ≤ i.2.at_ + i.1 ∧ POk l N i.2 ∧ eB l (p.F l) kinds i.1 i.2 = dW l (p.F l) kinds s)
      (fun i => ⟨2, aw 0 [pv 0 0 0, tFn.enc p.f, (tSl 1 (xq .i64)).enc kinds], cu 0 [co l i.2.at_ i.2.op i.2.ts.length 1, bR i.2.ts]⟩) (fun i => i.1) (l.length, s')
      ⟨by show l.length ≤ s'.at_ + l.length; omega, ⟨by show s'.at_ ≤ _; omega, by have := hok.rem; show _ ≤ s'.at_ + N; omega, by show 0 ≤ s'.op; rw [hg.2.2.1]; exact hok.op0, by show s'.op ≤ 64; rw [hg.2.2.1]; exact hok.op1, hg.2.2.2⟩, by rw [dW, hr]⟩
      (wkP (tb := 34) rfl rfl (by decide) (by simp) rfl) ?_
    · rintro ⟨m, q⟩ ⟨hm, hqk, hR⟩
      simp only at hm hqk hR
      refine ab (ctx := [⟨_, p.spec⟩, ⟨_, BI⟩, ⟨_, Ok⟩, ⟨_, Lg⟩]) 4000 ?_
      simp only [go_sem, co, bR]
      refine dG (ι := Nat) (fun j => j ≤ kinds.length)
        (fun j => ⟨2, [(0, pv 0 0 0), (1, tFn.enc p.f), (2, (tSl 1 (xq .i64)).enc kinds), (6, iv (cf (cT l q) (kinds.take j) 0)), (13, (tSl 1 (xq .i64)).enc kinds), (14, iv kinds.length), (15, iv j)], cu 0 [co l q.at_ q.op q.ts.length 1, bR q.ts]⟩) (fun j => kinds.length - j) 0
        (Nat.zero_le _) (wkP (tb := 1) rfl rfl (by decide) (by simp) rfl) ?_
      · intro j hj
        refine ab (ctx := [⟨_, p.spec⟩, ⟨_, BI⟩, ⟨_, Ok⟩, ⟨_, Lg⟩]) 4000 ?_
        rcases Nat.lt_or_ge j kinds.length with hlt | hge
        · obtain ⟨k, hkj⟩ : ∃ k, kinds[j]? = some k := ⟨_, List.getElem?_eq_getElem hlt⟩
          have hltI : (j : Int) < kinds.length := by omega
          have ej : IntKind.i64.wrap ((j : Int) + 1) = ((j + 1 : Nat) : Int) := by rw [IntKind.wrap_i64]; omega
          have hk3 := hk k (List.mem_of_getElem? hkj)
          have hnx : s.at_ ≤ l.length := hok.le
          have hnm : l.length ≤ maxLen := by unfold maxLen; omega
          have hqn := hqk.le
          simp only [go_sem, co, bR, hltI, hkj, eJ, eI, Om, Ol, n1, n2, n3, n4, gT, fI, xs0, bN, hqn, hnm, bK, aJ, ej, hk3]
          have ef : cf (cT l q) (kinds.take (j + 1)) 0 = if cT l q ≠ emp ∧ cT l q = eC k then k else cf (cT l q) (kinds.take j) 0 := by
            rw [List.take_add_one, hkj]; exact tG
          refine ⟨fun h1 => ?_, fun h1 => ⟨fun h2 => ?_, fun h2 => ?_⟩⟩
          · rw [if_neg (fun h => h.1 h1)] at ef
            exact ⟨j + 1, hlt, by omega, wkP (q := q) (tb := 82) rfl rfl (by decide) (by simp) (by rw [ef]; rfl)⟩
          · rw [if_pos ⟨h1, h2⟩] at ef
            exact ⟨j + 1, hlt, by omega, wkP (q := q) (tb := 82) rfl rfl (by decide) (by simp) (by rw [ef]; rfl)⟩
          · rw [if_neg (fun h => h2 h.2)] at ef
            exact ⟨j + 1, hlt, by omega, wkP (q := q) (tb := 82) rfl rfl (by decide) (by simp) (by rw [ef]; rfl)⟩
        · obtain rfl : j = kinds.length := by omega
          rw [← hR, EQ hm]
          simp only [List.take_length]
          by_cases hf : cf (cT l q) kinds 0 = 0
          · simp only [go_sem, co, bR, Int.lt_irrefl, hf]
            exact jO (s' := q) (tb := 1) rfl rfl rfl (by decide)
          · have hlt := rW (sL hf)
            have e1 : IntKind.i64.wrap ((q.at_ : Int) + 1) = ((q.at_ + 1 : Nat) : Int) := by rw [IntKind.wrap_i64]; omega
            have hq1 : qP N () l ⟨q.at_ + 1, q.op, q.ts⟩ := ⟨⟨by show q.at_ + 1 ≤ _; omega, by have := hqk.rem; show _ ≤ q.at_ + 1 + N; omega, hqk.op0, hqk.op1, hqk.ts⟩, hlen⟩
            rcases hr2 : p.F l ⟨q.at_ + 1, q.op, q.ts⟩ with e | q'
            · simp only [go_sem, co, bR, Int.lt_irrefl, hf, e1, n1, n2, n3, n4, p.run_eq, p.pan_eq, gT, fI, xs0, bN, hq1, hr2, aP, bO, bK, aJ, oN, nR]
            · have hg2 := p.goes l _ _ hq1.1 hr2
              simp only at hg2
              have h256 := hg2.2.2.2
              rcases hp : jz ⟨cf (cT l q) kinds 0, 0, ⟨#[]⟩⟩ q' with e | q''
              · have hp' : jz ⟨cf (cT l q) kinds 0, 0, emp⟩ q' = .error e := hp
                simp only [go_sem, co, bR, Int.lt_irrefl, hf, e1, n1, n2, n3, n4, p.run_eq, p.pan_eq, gT, fI, xs0, bN, hq1, hr2, aP, bO, bK, aJ, fN, fM, cF, h256, hp, hp', Except.map, oN, nR]
              · have hp' : jz ⟨cf (cT l q) kinds 0, 0, emp⟩ q' = .ok q'' := hp
                simp only [go_sem, co, bR, Int.lt_irrefl, hf, e1, n1, n2, n3, n4, p.run_eq, p.pan_eq, gT, fI, xs0, bN, hq1, hr2, aP, bO, bK, aJ, fN, fM, cF, h256, hp, hp', Except.map]
                obtain ⟨e3, e4⟩ := qi hp
                subst e3
                refine ⟨(m - 1, { q' with ts := q'.ts ++ [⟨cf (cT l q) kinds 0, 0, ⟨#[]⟩⟩] }), ⟨?_, ⟨?_, ?_, ?_, ?_, ?_⟩, rfl⟩, ?_, wkP (tb := 274) rfl rfl (by decide) (by simp) rfl⟩
                · show l.length ≤ q'.at_ + (m - 1); omega
                · show q'.at_ ≤ l.length; exact hg2.2.1
                · have := hqk.rem; show l.length ≤ q'.at_ + N; omega
                · show 0 ≤ q'.op; rw [hg2.2.2.1]; exact hqk.op0
                · show q'.op ≤ 64; rw [hg2.2.2.1]; exact hqk.op1
                · show (q'.ts ++ [_]).length ≤ 256; rw [List.length_append]; exact e4
                · show m - 1 < m; omega

/-! row, with the block of its operators -/
def jM (ks : List Int) : Blk := ⟨true, 3, 1, (ks.map (xq .i64).enc).map dj⟩
def fY : List LV → Option Int
  | [.v (.int .i64 k)] => some k
  | _ => none
theorem Kq {rows : List (List LV)} {ks : List Int} (h : dA fY rows = some ks) : rows = (ks.map (xq .i64).enc).map dj := by
  rw [List.map_map]
  refine lL (d := fY) (e := dj ∘ (xq .i64).enc) (fun c x hc => ?_) h
  unfold fY at hc
  split at hc
  · injection hc with hc; subst hc; rfl
  · cases hc

theorem PC (args : Array Value) (w : World) : (callFunc 171 args).run Tryz.prog w = .ok (.enter 171 args) w := by go_simp

def gd (N : Nat) (g : FuncId) (h : ag) : List AV → Option (Prop × List Nat × (List Int × List Tok × PS))
  | [A, F, .s (.l (.sl c 0 n))] => match fI h A, tFn.dec F, aq h c with
    | some (bs, l, s), some g', some ⟨true, T, 1, rows⟩ => match dA fY rows with
      | some ks => if g' = g ∧ T = 3 ∧ n = ks.length ∧ c ∉ bs then some (((∀ k ∈ ks, 3 ≤ k ∧ k ≤ 14) ∧ ks.length ≤ 10) ∧ qP N () l s, bs ++ [c], (ks, l, s)) else none
      | none => none
    | _, _, _ => none
  | _ => none

theorem xO {N : Nat} {g : FuncId} {h : ag} {zs : List AV} {q : Prop} {bs : List Nat} {ks : List Int} {l : List Tok} {s : PS} (hd : gd N g h zs = some (q, bs, (ks, l, s))) :
    ∃ b tb c F, zs = [pv b 0 0, F, .s (.l (.sl c 0 ks.length))] ∧ tFn.dec F = some g ∧ bs = [b, tb, c] ∧ b ≠ tb ∧ c ≠ b ∧ c ≠ tb ∧ aq h b = some (co l s.at_ s.op s.ts.length tb) ∧ aq h tb = some (bR s.ts) ∧ aq h c = some (jM ks) ∧
      q = (((∀ k ∈ ks, 3 ≤ k ∧ k ≤ 14) ∧ ks.length ≤ 10) ∧ qP N () l s) := by
  unfold gd at hd
  split at hd
  case h_2 => cases hd
  rename_i A F c n
  split at hd
  case h_2 => cases hd
  rename_i bs' l' s' g' T rows h1 h2 h3
  split at hd
  case h_2 => cases hd
  rename_i ks' h4
  split at hd
  case isFalse => cases hd
  rename_i hc
  obtain ⟨rfl, rfl, rfl, hm⟩ := hc
  injection hd with hd
  injection hd with e1 hd
  injection hd with e2 hd
  injection hd with e3 hd
  injection hd with e4 e5
  subst e3
  subst e4
  subst e5
  obtain ⟨b, tb, rfl, rfl, hne, hb1, hb2⟩ := FE h1
  simp only [List.mem_cons, List.not_mem_nil, or_false, not_or] at hm
  exact ⟨b, tb, c, F, rfl, h2, e2.symm, hne, hm.1, hm.2, hb1, hb2, by rw [h3, jM, Kq h4], e1.symm⟩

theorem A4 {N : Nat} {g : FuncId} {h h' : ag} (hs : ∀ b k, aq h b = some k → aq h' b = some k) {zs : List AV} {r : Prop × List Nat × (List Int × List Tok × PS)} (hd : gd N g h zs = some r) : gd N g h' zs = some r := by
  unfold gd at hd ⊢
  split at hd
  case h_2 => cases hd
  split at hd
  case h_2 => cases hd
  rename_i h1 h2 h3
  simp only [xN hs h1, h2, hs _ _ h3]
  exact hd

theorem Of {N : Nat} (p : gY N) (ks : List Int) (hk : (∀ k ∈ ks, 3 ≤ k ∧ k ≤ 14) ∧ ks.length ≤ 10) (l : List Tok) (s : PS) (h : qP N () l s) :
    SW Tryz.prog ⟨none, 1⟩ Tryz.f171.ntmps (Tryz.f171.body.getD .skip) ⟨3, aw 0 [pv 0 0 0, tFn.enc p.f, .s (.l (.sl 2 0 ks.length))], cu 0 [co l s.at_ s.op s.ts.length 1, bR s.ts, jM ks]⟩ (ji Tryz.prog Tryz.f171.results.toList 1 (jy l (jU (dW l (p.F l) ks s)))) := by
  have e : AV.toD (cu 0 [co l s.at_ s.op s.ts.length 1, bR s.ts, jM ks]) 4 (.s (.l (.sl 2 0 ks.length))) = some (0 + ks.length ≤ (jM ks).els.length ∧ True, [2], (tSl 1 (xq .i64)).enc ks) := by
    have e2 : gU (gU (LV.toD (cu 0 [co l s.at_ s.op s.ts.length 1, bR s.ts, jM ks]) 3)) (((jM ks).els.drop 0).take ks.length) = some (True, [], ks.map (xq .i64).enc) := by
      rw [List.drop_zero, List.take_of_length_le (by simp [jM])]
      exact nD
    simp only [AV.toD, SV.toD, LV.toD]
    rw [show aq (cu 0 [co l s.at_ s.op s.ts.length 1, bR s.ts, jM ks]) 2 = some (jM ks) from rfl]
    simp only [e2, show (jM ks).own = true from rfl, if_true]
    rfl
  refine SW.wk (SW.wk (Qa p ks hk.1 hk.2 l s h) (wkP (tb := 1) ?_ ?_ (by decide) ?_ ?_)) (Wk.frz 2 e ⟨by simp [jM], trivial⟩)
  · rfl
  · rfl
  · show 2 ≤ 3; decide
  · rfl

/-- 'row' with a part to read -/
def rg {N : Nat} (p : gY N) : bq Tryz.prog 171 :=
  mkR 1 3 (by decide) _ _ _ Tryz.func171 rfl PC (gd N p.f) (fun x => [pv 0 0 0, tFn.enc p.f, .s (.l (.sl 2 0 x.1.length))]) (fun x => [co x.2.1 x.2.2.at_ x.2.2.op x.2.2.ts.length 1, bR x.2.2.ts, jM x.1])
    (fun x => jy x.2.1 (jU (dW x.2.1 (p.F x.2.1) x.1 x.2.2))) (fun hs hd => A4 hs hd)
    (by
      intro h zs q bs x hd hq
      obtain ⟨ks, l, s⟩ := x
      obtain ⟨b, tb, c, F, rfl, hF, rfl, n1, n2, n3, h1, h2, h3, rfl⟩ := xO hd
      refine ⟨by rw [Tryz.ntmps171]; show 3 ≤ 47; decide, rfl, rfl, by simp [n1, Ne.symm n2, Ne.symm n3], fun d => ⟨?_, ?_⟩⟩
      · intro j b' k hj hk
        match j, hj, hk with
        | 0, hj, hk =>
          simp at hj hk
          subst hj
          subst hk
          exact ⟨rfl, by rw [h1]; rfl⟩
        | 1, hj, hk =>
          simp at hj hk
          subst hj
          subst hk
          refine ⟨rfl, ?_⟩
          rw [h2]
          simp only [bR, Blk.ren, ff]
        | 2, hj, hk =>
          simp at hj hk
          subst hj
          subst hk
          refine ⟨rfl, ?_⟩
          rw [h3]
          simp only [jM, Blk.ren, ff]
      · intro ρ al vals hA
        match vals, hA with
        | [v, v2, v3], ⟨a, a2, a3, _⟩ => exact ⟨a, (show v2 = _ from tFn.ok hF a2), a3, trivial⟩)
    (by
      intro h zs q bs x hd hq
      obtain ⟨ks, l, s⟩ := x
      obtain ⟨b, tb, c, F, rfl, hF, rfl, n1, n2, n3, h1, h2, h3, rfl⟩ := xO hd
      exact Of p ks hq.1 l s hq.2)
theorem i9 {N : Nat} {p : gY N} {id : Nat} {h : ag} {args : List AV} : (rg p).run id h args = mj 1 (gd N p.f) (fun x => jy x.2.1 (jU (dW x.2.1 (p.F x.2.1) x.1 x.2.2))) id h args := rfl
theorem i8 {N : Nat} {p : gY N} {id : Nat} {h : ag} {args : List AV} : (rg p).pan id h args = lp (gd N p.f) (fun x => jy x.2.1 (jU (dW x.2.1 (p.F x.2.1) x.1 x.2.2))) h args := rfl

end Go.Proofs.YthcoegkfpinlfaaGreatDoor.Ex

/-! ## N4 -/
namespace Go.Proofs.YthcoegkfpinlfaaGreatDoor.Ex
open Go.RowKit



set_option maxHeartbeats 1000000 in
theorem Et {N : Nat} (p : gY N) (hp : p.f = 196) (l : List Tok) (s : PS) (h : qP N () l s) :
    SW Tryz.prog ⟨none, 1⟩ Tryz.f195.ntmps (Tryz.f195.body.getD .skip) ⟨2, aw 0 [pv 0 0 0], cu 0 [co l s.at_ s.op s.ts.length 1, bR s.ts]⟩ (ji Tryz.prog Tryz.f195.results.toList 1 (jy l (jU (dW l (p.F l) [5, 6, 7] s)))) := by
  refine ab (ctx := [⟨_, rg p⟩]) 4000 ?_
  rw [Tryz.ntmps195, Tryz.results195]
  simp only [Tryz.f195, Option.getD_some, aw]
  have hq : qP N () l s := h
  rcases hr : dW l (p.F l) [5, 6, 7] s with e | s'
  · simp only [go_sem, co, bR, i9, i8, gd, fI, bN, fY, dA, hp, hq, hr, aP, bO, bK, aJ]
    try (intro k hk; omega)
  · simp only [go_sem, co, bR, i9, i8, gd, fI, bN, fY, dA, hp, hq, hr, aP, bO, bK, aJ]
    first
      | exact jO (s' := s') (tb := 34) rfl rfl rfl (by decide)
      | exact ⟨by intro k hk; omega, jO (s' := s') (tb := 34) rfl rfl rfl (by decide)⟩

theorem DF (args : Array Value) (w : World) : (callFunc 195 args).run Tryz.prog w = .ok (.enter 195 args) w := by go_simp
def Lf {N : Nat} (p : gY N) (hp : p.f = 196) : gY N where
  f := 195
  F := fun l => dW l (p.F l) [5, 6, 7]
  spec := mkX _ _ _ Tryz.func195 rfl DF xs0 (qP N) (fun _ l s => jU (dW l (p.F l) [5, 6, 7] s)) (by rw [Tryz.ntmps195]; decide) (fun _ l s h => Et p hp l s h)
  run_eq := fun _ _ _ => rfl
  pan_eq := fun _ _ _ => rfl
  goes := fun l => fB (p.goes l)
  ne := by decide

set_option maxHeartbeats 1000000 in
theorem Qe {N : Nat} (p : gY N) (hp : p.f = 195) (l : List Tok) (s : PS) (h : qP N () l s) :
    SW Tryz.prog ⟨none, 1⟩ Tryz.f194.ntmps (Tryz.f194.body.getD .skip) ⟨2, aw 0 [pv 0 0 0], cu 0 [co l s.at_ s.op s.ts.length 1, bR s.ts]⟩ (ji Tryz.prog Tryz.f194.results.toList 1 (jy l (jU (dW l (p.F l) [8, 9] s)))) := by
  refine ab (ctx := [⟨_, rg p⟩]) 4000 ?_
  rw [Tryz.ntmps194, Tryz.results194]
  simp only [Tryz.f194, Option.getD_some, aw]
  have hq : qP N () l s := h
  rcases hr : dW l (p.F l) [8, 9] s with e | s'
  · simp only [go_sem, co, bR, i9, i8, gd, fI, bN, fY, dA, hp, hq, hr, aP, bO, bK, aJ]
    try (intro k hk; omega)
  · simp only [go_sem, co, bR, i9, i8, gd, fI, bN, fY, dA, hp, hq, hr, aP, bO, bK, aJ]
    first
      | exact jO (s' := s') (tb := 34) rfl rfl rfl (by decide)
      | exact ⟨by intro k hk; omega, jO (s' := s') (tb := 34) rfl rfl rfl (by decide)⟩

theorem PE (args : Array Value) (w : World) : (callFunc 194 args).run Tryz.prog w = .ok (.enter 194 args) w := by go_simp
def sumP {N : Nat} (p : gY N) (hp : p.f = 195) : gY N where
  f := 194
  F := fun l => dW l (p.F l) [8, 9]
  spec := mkX _ _ _ Tryz.func194 rfl PE xs0 (qP N) (fun _ l s => jU (dW l (p.F l) [8, 9] s)) (by rw [Tryz.ntmps194]; decide) (fun _ l s h => Qe p hp l s h)
  run_eq := fun _ _ _ => rfl
  pan_eq := fun _ _ _ => rfl
  goes := fun l => fB (p.goes l)
  ne := by decide

set_option maxHeartbeats 1000000 in
theorem LU {N : Nat} (p : gY N) (hp : p.f = 194) (l : List Tok) (s : PS) (h : qP N () l s) :
    SW Tryz.prog ⟨none, 1⟩ Tryz.f193.ntmps (Tryz.f193.body.getD .skip) ⟨2, aw 0 [pv 0 0 0], cu 0 [co l s.at_ s.op s.ts.length 1, bR s.ts]⟩ (ji Tryz.prog Tryz.f193.results.toList 1 (jy l (jU (dW l (p.F l) [10, 11] s)))) := by
  refine ab (ctx := [⟨_, rg p⟩]) 4000 ?_
  rw [Tryz.ntmps193, Tryz.results193]
  simp only [Tryz.f193, Option.getD_some, aw]
  have hq : qP N () l s := h
  rcases hr : dW l (p.F l) [10, 11] s with e | s'
  · simp only [go_sem, co, bR, i9, i8, gd, fI, bN, fY, dA, hp, hq, hr, aP, bO, bK, aJ]
    try (intro k hk; omega)
  · simp only [go_sem, co, bR, i9, i8, gd, fI, bN, fY, dA, hp, hq, hr, aP, bO, bK, aJ]
    first
      | exact jO (s' := s') (tb := 34) rfl rfl rfl (by decide)
      | exact ⟨by intro k hk; omega, jO (s' := s') (tb := 34) rfl rfl rfl (by decide)⟩

theorem Kc (args : Array Value) (w : World) : (callFunc 193 args).run Tryz.prog w = .ok (.enter 193 args) w := by go_simp
def Qb {N : Nat} (p : gY N) (hp : p.f = 194) : gY N where
  f := 193
  F := fun l => dW l (p.F l) [10, 11]
  spec := mkX _ _ _ Tryz.func193 rfl Kc xs0 (qP N) (fun _ l s => jU (dW l (p.F l) [10, 11] s)) (by rw [Tryz.ntmps193]; decide) (fun _ l s h => LU p hp l s h)
  run_eq := fun _ _ _ => rfl
  pan_eq := fun _ _ _ => rfl
  goes := fun l => fB (p.goes l)
  ne := by decide

set_option maxHeartbeats 1000000 in
theorem M7 {N : Nat} (p : gY N) (hp : p.f = 193) (l : List Tok) (s : PS) (h : qP N () l s) :
    SW Tryz.prog ⟨none, 1⟩ Tryz.f186.ntmps (Tryz.f186.body.getD .skip) ⟨2, aw 0 [pv 0 0 0], cu 0 [co l s.at_ s.op s.ts.length 1, bR s.ts]⟩ (ji Tryz.prog Tryz.f186.results.toList 1 (jy l (jU (dW l (p.F l) [12] s)))) := by
  refine ab (ctx := [⟨_, rg p⟩]) 4000 ?_
  rw [Tryz.ntmps186, Tryz.results186]
  simp only [Tryz.f186, Option.getD_some, aw]
  have hq : qP N () l s := h
  rcases hr : dW l (p.F l) [12] s with e | s'
  · simp only [go_sem, co, bR, i9, i8, gd, fI, bN, fY, dA, hp, hq, hr, aP, bO, bK, aJ]
    try (intro k hk; omega)
  · simp only [go_sem, co, bR, i9, i8, gd, fI, bN, fY, dA, hp, hq, hr, aP, bO, bK, aJ]
    first
      | exact jO (s' := s') (tb := 34) rfl rfl rfl (by decide)
      | exact ⟨by intro k hk; omega, jO (s' := s') (tb := 34) rfl rfl rfl (by decide)⟩

theorem Ni (args : Array Value) (w : World) : (callFunc 186 args).run Tryz.prog w = .ok (.enter 186 args) w := by go_simp
def QE {N : Nat} (p : gY N) (hp : p.f = 193) : gY N where
  f := 186
  F := fun l => dW l (p.F l) [12]
  spec := mkX _ _ _ Tryz.func186 rfl Ni xs0 (qP N) (fun _ l s => jU (dW l (p.F l) [12] s)) (by rw [Tryz.ntmps186]; decide) (fun _ l s h => M7 p hp l s h)
  run_eq := fun _ _ _ => rfl
  pan_eq := fun _ _ _ => rfl
  goes := fun l => fB (p.goes l)
  ne := by decide

set_option maxHeartbeats 1000000 in
theorem PZ {N : Nat} (p : gY N) (hp : p.f = 186) (l : List Tok) (s : PS) (h : qP N () l s) :
    SW Tryz.prog ⟨none, 1⟩ Tryz.f172.ntmps (Tryz.f172.body.getD .skip) ⟨2, aw 0 [pv 0 0 0], cu 0 [co l s.at_ s.op s.ts.length 1, bR s.ts]⟩ (ji Tryz.prog Tryz.f172.results.toList 1 (jy l (jU (dW l (p.F l) [13] s)))) := by
  refine ab (ctx := [⟨_, rg p⟩]) 4000 ?_
  rw [Tryz.ntmps172, Tryz.results172]
  simp only [Tryz.f172, Option.getD_some, aw]
  have hq : qP N () l s := h
  rcases hr : dW l (p.F l) [13] s with e | s'
  · simp only [go_sem, co, bR, i9, i8, gd, fI, bN, fY, dA, hp, hq, hr, aP, bO, bK, aJ]
    try (intro k hk; omega)
  · simp only [go_sem, co, bR, i9, i8, gd, fI, bN, fY, dA, hp, hq, hr, aP, bO, bK, aJ]
    first
      | exact jO (s' := s') (tb := 34) rfl rfl rfl (by decide)
      | exact ⟨by intro k hk; omega, jO (s' := s') (tb := 34) rfl rfl rfl (by decide)⟩

theorem PA (args : Array Value) (w : World) : (callFunc 172 args).run Tryz.prog w = .ok (.enter 172 args) w := by go_simp
def oddP {N : Nat} (p : gY N) (hp : p.f = 186) : gY N where
  f := 172
  F := fun l => dW l (p.F l) [13]
  spec := mkX _ _ _ Tryz.func172 rfl PA xs0 (qP N) (fun _ l s => jU (dW l (p.F l) [13] s)) (by rw [Tryz.ntmps172]; decide) (fun _ l s h => PZ p hp l s h)
  run_eq := fun _ _ _ => rfl
  pan_eq := fun _ _ _ => rfl
  goes := fun l => fB (p.goes l)
  ne := by decide

set_option maxHeartbeats 1000000 in
theorem Ha {N : Nat} (p : gY N) (hp : p.f = 172) (l : List Tok) (s : PS) (h : qP N () l s) :
    SW Tryz.prog ⟨none, 1⟩ Tryz.f159.ntmps (Tryz.f159.body.getD .skip) ⟨2, aw 0 [pv 0 0 0], cu 0 [co l s.at_ s.op s.ts.length 1, bR s.ts]⟩ (ji Tryz.prog Tryz.f159.results.toList 1 (jy l (jU (dW l (p.F l) [14] s)))) := by
  refine ab (ctx := [⟨_, rg p⟩]) 4000 ?_
  rw [Tryz.ntmps159, Tryz.results159]
  simp only [Tryz.f159, Option.getD_some, aw]
  have hq : qP N () l s := h
  rcases hr : dW l (p.F l) [14] s with e | s'
  · simp only [go_sem, co, bR, i9, i8, gd, fI, bN, fY, dA, hp, hq, hr, aP, bO, bK, aJ]
    try (intro k hk; omega)
  · simp only [go_sem, co, bR, i9, i8, gd, fI, bN, fY, dA, hp, hq, hr, aP, bO, bK, aJ]
    first
      | exact jO (s' := s') (tb := 34) rfl rfl rfl (by decide)
      | exact ⟨by intro k hk; omega, jO (s' := s') (tb := 34) rfl rfl rfl (by decide)⟩

theorem Hd (args : Array Value) (w : World) : (callFunc 159 args).run Tryz.prog w = .ok (.enter 159 args) w := by go_simp
def Nf {N : Nat} (p : gY N) (hp : p.f = 172) : gY N where
  f := 159
  F := fun l => dW l (p.F l) [14]
  spec := mkX _ _ _ Tryz.func159 rfl Hd xs0 (qP N) (fun _ l s => jU (dW l (p.F l) [14] s)) (by rw [Tryz.ntmps159]; decide) (fun _ l s h => Ha p hp l s h)
  run_eq := fun _ _ _ => rfl
  pan_eq := fun _ _ _ => rfl
  goes := fun l => fB (p.goes l)
  ne := by decide

end Go.Proofs.YthcoegkfpinlfaaGreatDoor.Ex

/-! ## N5 -/
namespace Go.Proofs.YthcoegkfpinlfaaGreatDoor.Ex
open Go.RowKit

def Qi (h : ag) : Nat := match aq h 0 with
  | some ⟨_, _, _, [[_, _, _, .sl tb _ _]]⟩ => tb
  | _ => 0
theorem Bs {l : List Tok} {s' : PS} {r : AV} {st : St} (hr : r.plain = true) (h1 : aq st.h 0 = some (co l s'.at_ s'.op s'.ts.length (Qi st.h))) (h2 : aq st.h (Qi st.h) = some (bR s'.ts)) (hn : Qi st.h ≠ 0) : tL 1 st (jy l (.ok (r, s'))) (some r) := jO hr h1 h2 hn

/-- an operand, where there is a token -/
def bX (rp rq : PS → PR) (l : List Tok) (t : Tok) (s : PS) : PR :=
  if t.kind = 2 then jz ⟨1, wrap64 t.n, emp⟩ { s with at_ := s.at_ + 1 }
  else if t.kind = 1 then jz ⟨2, 0, t.text⟩ { s with at_ := s.at_ + 1 }
  else if t.kind = 4 ∧ t.text = ⟨#[40]⟩ then
    match dV rp s with
    | .error e => .error e
    | .ok s' => if cT l s' = ⟨#[41]⟩ then .ok { s' with at_ := s'.at_ + 1 } else .error 90
  else if t.kind = 4 ∧ (t.text = ⟨#[45]⟩ ∨ t.text = ⟨#[126]⟩) then
    match dV rq s with
    | .error e => .error e
    | .ok s' => jz ⟨if t.text = ⟨#[126]⟩ then 4 else 3, 0, emp⟩ s'
  else .error 90

theorem xm {l : List Tok} {N : Nat} {s : PS} {t : Tok} (h : l[s.at_]? = some t) : aU l (N + 1) s = bX (fK l (aU l N)) (aU l N) l t s := by
  rw [aU, h]; rfl

set_option maxHeartbeats 1000000 in
theorem r4 {N : Nat} (l : List Tok) (s : PS) (h : qP N () l s) (hl : l[s.at_]? = none) :
    SW Tryz.prog ⟨none, 1⟩ Tryz.f196.ntmps (Tryz.f196.body.getD .skip) ⟨2, aw 0 [pv 0 0 0], cu 0 [co l s.at_ s.op s.ts.length 1, bR s.ts]⟩ (ji Tryz.prog Tryz.f196.results.toList 1 (jy l (jU (.error 90)))) := by
  refine ab (ctx := [⟨_, xR⟩]) 4000 ?_
  rw [Tryz.ntmps196, Tryz.results196]
  simp only [Tryz.f196, Option.getD_some, aw]
  have hge : ¬ (s.at_ : Int) < l.length := by have := List.getElem?_eq_none_iff.1 hl; omega
  have hge2 : (l.length : Int) ≤ s.at_ := by omega
  simp only [go_sem, co, bR]
  refine cr (ctx := []) mixed [] (by kernel_rfl) ?_
  simp only [go_sem, hge, hge2, List.length_map, dq, dp, aP, aJ]

set_option maxRecDepth 4000 in
set_option maxHeartbeats 4000000 in
theorem zT {N : Nat} (p q : gY N) (hp : p.f = 159) (hq : q.f = 196) (l : List Tok) (s : PS) (h : qP (N + 1) () l s) (t : Tok) (hl : l[s.at_]? = some t) :
    SW Tryz.prog ⟨none, 1⟩ Tryz.f196.ntmps (Tryz.f196.body.getD .skip) ⟨2, aw 0 [pv 0 0 0], cu 0 [co l s.at_ s.op s.ts.length 1, bR s.ts]⟩ (ji Tryz.prog Tryz.f196.results.toList 1 (jy l (jU (bX (p.F l) (q.F l) l t s)))) := by
  refine ab (ctx := [⟨_, zS p q⟩, ⟨_, BI⟩, ⟨_, Lg⟩, ⟨_, xR⟩]) 4000 ?_
  rw [Tryz.ntmps196, Tryz.results196]
  simp only [Tryz.f196, Option.getD_some, aw]
  obtain ⟨hok, hlen⟩ := h
  have hltN := (List.getElem?_eq_some_iff.1 hl).1
  have hlt : (s.at_ : Int) < l.length := by omega
  have hge : ¬ (l.length : Int) ≤ s.at_ := by omega
  have e1 := Aq hok.le hlen
  simp only [go_sem, co, bR]
  refine cr (ctx := []) mixed [] (by kernel_rfl) ?_
  simp only [go_sem, hlt, hge, List.length_map]
  refine cr (ctx := []) mixed [11] (by kernel_rfl) ?_
  have h256 := hok.ts
  by_cases c2 : t.kind = 2
  · have eG : bX (p.F l) (q.F l) l t s = jz ⟨1, IntKind.i64.wrap t.n, ⟨#[]⟩⟩ { s with at_ := s.at_ + 1 } := by rw [bX, if_pos c2, IntKind.wrap_i64, Go.RowKit.wrap64]; rfl
    rw [eG]
    rcases hp2 : jz ⟨1, IntKind.i64.wrap t.n, ⟨#[]⟩⟩ { s with at_ := s.at_ + 1 } with e | s'
    · simp only [go_sem, co, bR, hlt, hge, e1, List.length_map, hl, oT, dl, dk, eJ, eI, fN, fM, dq, dp, gT, fI, xs0, pc, cF, bN, aP, bO, bK, aJ, Except.map, hp, hq, h256, c2, hp2]
    · simp only [go_sem, co, bR, hlt, hge, e1, List.length_map, hl, oT, dl, dk, eJ, eI, fN, fM, dq, dp, gT, fI, xs0, pc, cF, bN, aP, bO, bK, aJ, Except.map, hp, hq, h256, c2, hp2]
      exact Bs (s' := s') rfl rfl rfl (Nat.succ_ne_zero _)
  have c2b : (t.kind == 2) = false := by simp [c2]
  by_cases c1 : t.kind = 1
  · have eG : bX (p.F l) (q.F l) l t s = jz ⟨2, 0, t.text⟩ { s with at_ := s.at_ + 1 } := by rw [bX, if_neg c2, if_pos c1]
    rw [eG]
    rcases hp2 : jz ⟨2, 0, t.text⟩ { s with at_ := s.at_ + 1 } with e | s'
    · simp only [go_sem, co, bR, hlt, hge, e1, List.length_map, hl, oT, dl, dk, eJ, eI, fN, fM, dq, dp, gT, fI, xs0, pc, cF, bN, aP, bO, bK, aJ, Except.map, hp, hq, h256, c1, hp2]
    · simp only [go_sem, co, bR, hlt, hge, e1, List.length_map, hl, oT, dl, dk, eJ, eI, fN, fM, dq, dp, gT, fI, xs0, pc, cF, bN, aP, bO, bK, aJ, Except.map, hp, hq, h256, c1, hp2]
      exact Bs (s' := s') rfl rfl rfl (Nat.succ_ne_zero _)
  have hopq : ((159 : Nat) = 196) = False := by simp
  by_cases c4 : t.kind = 4
  · by_cases ct : t.text = ⟨#[40]⟩
    · rcases ho : dV (p.F l) s with e | s'
      · have eG : bX (p.F l) (q.F l) l t s = .error e := by rw [bX, if_neg c2, if_neg c1, if_pos ⟨c4, ct⟩, ho]
        rw [eG]
        simp only [go_sem, co, bR, hlt, hge, e1, List.length_map, hl, oT, dl, dk, eJ, eI, fN, fM, dq, dp, gT, fI, xs0, pc, cF, bN, aP, bO, bK, aJ, Except.map, hp, hq, h256, c4, ct, ho, hok, hltN, hlen]
      · have hg := jS (p.goes l) hok hltN ho
        have hsl := hg.2.1
        have hlm : l.length ≤ maxLen := by unfold maxLen; omega
        by_cases hn : cT l s' = ⟨#[41]⟩
        · have eG : bX (p.F l) (q.F l) l t s = .ok { s' with at_ := s'.at_ + 1 } := by rw [bX, if_neg c2, if_neg c1, if_pos ⟨c4, ct⟩, ho]; simp only [hn, if_true]
          rw [eG]
          have e5 := Aq hsl hlen
          simp only [go_sem, co, bR, hlt, hge, e1, List.length_map, hl, oT, dl, dk, eJ, eI, fN, fM, dq, dp, gT, fI, xs0, pc, cF, bN, aP, bO, bK, aJ, Except.map, hp, hq, h256, c4, ct, ho, hok, hltN, hlen, hsl, hlm, hn, e5]
          exact Bs (s' := { s' with at_ := s'.at_ + 1 }) rfl rfl rfl (Nat.succ_ne_zero _)
        · have eG : bX (p.F l) (q.F l) l t s = .error 90 := by rw [bX, if_neg c2, if_neg c1, if_pos ⟨c4, ct⟩, ho]; simp only [hn, if_false]
          rw [eG]
          simp only [go_sem, co, bR, hlt, hge, e1, List.length_map, hl, oT, dl, dk, eJ, eI, fN, fM, dq, dp, gT, fI, xs0, pc, cF, bN, aP, bO, bK, aJ, Except.map, hp, hq, h256, c4, ct, ho, hok, hltN, hlen, hsl, hlm, hn]
    · by_cases cm : t.text = ⟨#[45]⟩
      · have ne1 : ((⟨#[45]⟩ : ByteArray) = ⟨#[40]⟩) = False := by simp
        have ne2 : ((⟨#[45]⟩ : ByteArray) = ⟨#[45]⟩) = True := by simp
        have ne3 : ((⟨#[45]⟩ : ByteArray) = ⟨#[126]⟩) = False := by simp
        rcases ho : dV (q.F l) s with e | s'
        · have eG : bX (p.F l) (q.F l) l t s = .error e := by rw [bX, if_neg c2, if_neg c1, if_neg (fun h => ct h.2), if_pos ⟨c4, .inl cm⟩, ho]
          rw [eG]
          simp only [go_sem, co, bR, hlt, hge, e1, List.length_map, hl, oT, dl, dk, eJ, eI, fN, fM, dq, dp, gT, fI, xs0, pc, cF, bN, aP, bO, bK, aJ, Except.map, hp, hq, h256, c4, cm, ct, ne1, ne2, ne3, ho, hok, hltN, hlen]
        · have hg := jS (q.goes l) hok hltN ho
          have hs256 := hg.2.2.2
          rcases hp2 : jz ⟨3, 0, ⟨#[]⟩⟩ s' with e | s''
          · have eG : bX (p.F l) (q.F l) l t s = .error e := by
              rw [bX, if_neg c2, if_neg c1, if_neg (fun h => ct h.2), if_pos ⟨c4, .inl cm⟩, ho, cm]
              simp only [ne3, if_true, if_false]
              exact hp2
            rw [eG]
            simp only [go_sem, co, bR, hlt, hge, e1, List.length_map, hl, oT, dl, dk, eJ, eI, fN, fM, dq, dp, gT, fI, xs0, pc, cF, bN, aP, bO, bK, aJ, Except.map, hp, hq, h256, c4, cm, ct, ne1, ne2, ne3, ho, hok, hltN, hlen, hs256, hp2]
          · have eG : bX (p.F l) (q.F l) l t s = .ok s'' := by
              rw [bX, if_neg c2, if_neg c1, if_neg (fun h => ct h.2), if_pos ⟨c4, .inl cm⟩, ho, cm]
              simp only [ne3, if_true, if_false]
              exact hp2
            rw [eG]
            simp only [go_sem, co, bR, hlt, hge, e1, List.length_map, hl, oT, dl, dk, eJ, eI, fN, fM, dq, dp, gT, fI, xs0, pc, cF, bN, aP, bO, bK, aJ, Except.map, hp, hq, h256, c4, cm, ct, ne1, ne2, ne3, ho, hok, hltN, hlen, hs256, hp2]
            exact Bs (s' := s'') rfl rfl rfl (Nat.succ_ne_zero _)
      · by_cases cn : t.text = ⟨#[126]⟩
        · have ne1 : ((⟨#[126]⟩ : ByteArray) = ⟨#[40]⟩) = False := by simp
          have ne2 : ((⟨#[126]⟩ : ByteArray) = ⟨#[45]⟩) = False := by simp
          have ne3 : ((⟨#[126]⟩ : ByteArray) = ⟨#[126]⟩) = True := by simp
          rcases ho : dV (q.F l) s with e | s'
          · have eG : bX (p.F l) (q.F l) l t s = .error e := by rw [bX, if_neg c2, if_neg c1, if_neg (fun h => ct h.2), if_pos ⟨c4, .inr cn⟩, ho]
            rw [eG]
            simp only [go_sem, co, bR, hlt, hge, e1, List.length_map, hl, oT, dl, dk, eJ, eI, fN, fM, dq, dp, gT, fI, xs0, pc, cF, bN, aP, bO, bK, aJ, Except.map, hp, hq, h256, c4, cn, ct, ne1, ne2, ne3, ho, hok, hltN, hlen]
          · have hg := jS (q.goes l) hok hltN ho
            have hs256 := hg.2.2.2
            rcases hp2 : jz ⟨4, 0, ⟨#[]⟩⟩ s' with e | s''
            · have eG : bX (p.F l) (q.F l) l t s = .error e := by
                rw [bX, if_neg c2, if_neg c1, if_neg (fun h => ct h.2), if_pos ⟨c4, .inr cn⟩, ho, cn]
                simp only [ne3, if_true, if_false]
                exact hp2
              rw [eG]
              simp only [go_sem, co, bR, hlt, hge, e1, List.length_map, hl, oT, dl, dk, eJ, eI, fN, fM, dq, dp, gT, fI, xs0, pc, cF, bN, aP, bO, bK, aJ, Except.map, hp, hq, h256, c4, cn, ct, ne1, ne2, ne3, ho, hok, hltN, hlen, hs256, hp2]
            · have eG : bX (p.F l) (q.F l) l t s = .ok s'' := by
                rw [bX, if_neg c2, if_neg c1, if_neg (fun h => ct h.2), if_pos ⟨c4, .inr cn⟩, ho, cn]
                simp only [ne3, if_true, if_false]
                exact hp2
              rw [eG]
              simp only [go_sem, co, bR, hlt, hge, e1, List.length_map, hl, oT, dl, dk, eJ, eI, fN, fM, dq, dp, gT, fI, xs0, pc, cF, bN, aP, bO, bK, aJ, Except.map, hp, hq, h256, c4, cn, ct, ne1, ne2, ne3, ho, hok, hltN, hlen, hs256, hp2]
              exact Bs (s' := s'') rfl rfl rfl (Nat.succ_ne_zero _)
        · have eG : bX (p.F l) (q.F l) l t s = .error 90 := by rw [bX, if_neg c2, if_neg c1, if_neg (fun h => ct h.2), if_neg (fun h => h.2.elim cm cn)]
          rw [eG]
          simp only [go_sem, co, bR, hlt, hge, e1, List.length_map, hl, oT, dl, dk, eJ, eI, fN, fM, dq, dp, gT, fI, xs0, pc, cF, bN, aP, bO, bK, aJ, Except.map, hp, hq, h256, c4, ct, cm, cn]
  · have eG : bX (p.F l) (q.F l) l t s = .error 90 := by rw [bX, if_neg c2, if_neg c1, if_neg (fun h => c4 h.1), if_neg (fun h => c4 h.1)]
    rw [eG]
    have c4b : (t.kind == 4) = false := by simp [c4]
    have c1b : (t.kind == 1) = false := by simp [c1]
    simp only [go_sem, co, bR, hlt, hge, e1, List.length_map, hl, oT, dl, dk, eJ, eI, fN, fM, dq, dp, gT, fI, xs0, pc, cF, bN, aP, bO, bK, aJ, Except.map, hp, hq, h256, c1, c2, c4]

theorem vo (args : Array Value) (w : World) : (callFunc 196 args).run Tryz.prog w = .ok (.enter 196 args) w := by go_simp

def zK {N : Nat} (q : gY N) (hq : q.f = 196) : gY N :=
  Nf (oddP (QE (Qb (sumP (Lf q hq) rfl) rfl) rfl) rfl) rfl
theorem yc {N : Nat} {q : gY N} {hq : q.f = 196} : (zK q hq).F = fun l => fK l (q.F l) := rfl

theorem qC {l : List Tok} {N : Nat} {s : PS} (h : l[s.at_]? = none) : aU l N s = .error 90 := by
  cases N with
  | zero => rw [aU]
  | succ N => rw [aU, h]

/-- 'operand', where no token is left -/
def KY : gY 0 where
  f := 196
  F := fun l => aU l 0
  spec := mkX _ _ _ Tryz.func196 rfl vo xs0 (qP 0) (fun _ l s => jU (aU l 0 s)) (by rw [Tryz.ntmps196]; decide)
    (fun _ l s h => by
      have hl : l[s.at_]? = none := List.getElem?_eq_none_iff.2 (by have := h.1.rem; omega)
      rw [qC hl]
      exact r4 l s h hl)
  run_eq := fun _ _ _ => rfl
  pan_eq := fun _ _ _ => rfl
  goes := fun l => iV 0
  ne := by decide

def KZ {N : Nat} (q : gY N) (hq : q.f = 196) (hF : q.F = fun l => aU l N) : gY (N + 1) where
  f := 196
  F := fun l => aU l (N + 1)
  spec := mkX _ _ _ Tryz.func196 rfl vo xs0 (qP (N + 1)) (fun _ l s => jU (aU l (N + 1) s)) (by rw [Tryz.ntmps196]; decide)
    (fun _ l s h => by
      rcases hl : l[s.at_]? with _ | t
      · rw [qC hl]
        exact r4 l s h hl
      · rw [xm hl]
        have := zT (zK q hq) q rfl hq l s h t hl
        rw [yc, hF] at this
        exact this)
  run_eq := fun _ _ _ => rfl
  pan_eq := fun _ _ _ => rfl
  goes := fun l => iV (N + 1)
  ne := by decide

def np : (N : Nat) → { q : gY N // q.f = 196 ∧ q.F = fun l => aU l N }
  | 0 => ⟨KY, rfl, rfl⟩
  | N + 1 => ⟨KZ (np N).1 (np N).2.1 (np N).2.2, rfl, rfl⟩

/-- the parser's whole walk -/
def pM (N : Nat) : gY N := zK (np N).1 (np N).2.1
theorem Ci (N : Nat) : (pM N).f = 159 := rfl
theorem Ch (N : Nat) : (pM N).F = fun l => fK l (aU l N) := by
  rw [pM, yc, (np N).2.2]

end Go.Proofs.YthcoegkfpinlfaaGreatDoor.Ex

/-! ## N6 -/
namespace Go.Proofs.YthcoegkfpinlfaaGreatDoor.Ex
open Go.RowKit

/-- what Parse answers -/
def outParse (l : List Tok) : PO :=
  match parseF l with
  | .ok s => .ret (.tup [.l (.d (.sd 3 (s.ts.map j0.enc))), .l (.v (.int .i64 s.at_)), .l (.v (.int .i64 0))])
  | .error e => .ret (.tup [.l (.v (.slice none 0 0)), .l (.v (.int .i64 0)), .l (.v (.int .i64 e))])

theorem Hf (args : Array Value) (w : World) : (callFunc 158 args).run Tryz.prog w = .ok (.enter 158 args) w := by go_simp
theorem J9 (args : Array Value) (w : World) : (callFunc 145 args).run Tryz.prog w = .ok (.enter 145 args) w := by go_simp

def c3K (a : LV) (b c : Int) : List Blk := [⟨true, 156, 1, [[a]]⟩, ⟨true, 3, 1, [[.v (.int .i64 b)]]⟩, ⟨true, 25, 1, [[.v (.int .i64 c)]]⟩]

/-- the three results' cells, and what hangs on them -/
structure Jb (s : St) (a : LV) (b c : Int) : Prop where
  h0 : aq s.h 0 = some ⟨true, 156, 1, [[a]]⟩
  h1 : aq s.h 1 = some ⟨true, 3, 1, [[.v (.int .i64 b)]]⟩
  h2 : aq s.h 2 = some ⟨true, 25, 1, [[.v (.int .i64 c)]]⟩

def O4 (s : St) : Prop := cE s.t 2 = pv 0 0 0 ∧ cE s.t 3 = pv 1 0 0 ∧ cE s.t 4 = pv 2 0 0

set_option maxRecDepth 4000 in
set_option maxHeartbeats 4000000 in
theorem Eg (l : List Tok) (hl : l.length ≤ 1000000) : MD Tryz.prog 145 Tryz.f145 ⟨0, aw 0 [(tSl 4 mg).enc l], []⟩ (outParse l) := by
  intro B w ρ al vals R hpl hds H hret _
  refine tC (K := 3) (js := [0, 1, 2]) (cells := [(2, 0), (3, 1), (4, 2)]) (s1 := ⟨3, [(0, (tSl 4 mg).enc l), (2, pv 0 0 0), (3, pv 1 0 0), (4, pv 2 0 0)], cu 0 (c3K (.v (.slice none 0 0)) 0 0)⟩)
    (post := fun s => O4 s ∧ ∃ s', parseF l = .ok s' ∧ ∃ tb, Jb s (.sl tb 0 s'.ts.length) s'.at_ 0 ∧ 3 ≤ tb ∧ aq s.h tb = some (bR s'.ts))
    (pp := fun x s => O4 s ∧ ∃ e, parseF l = .error e ∧ x = mQ e ∧ Jb s (.v (.slice none 0 0)) 0 0)
    (post2 := fun s => Aa s.h (outParse l) (mX Tryz.prog Tryz.f145.results.toList ⟨s.nx, [(2, pv 0 0 0), (3, pv 1 0 0), (4, pv 2 0 0)], s.h⟩))
    Tryz.func145 rfl Tryz.func158 rfl rfl rfl rfl rfl (by decide) (by decide) (by decide) (by decide) hpl hds H ?_
    (zJ rfl rfl rfl rfl rfl rfl (by decide) Hf rfl) ?_ ?_ ?_ ?_ ?_ ?_ ?_
  · refine ab (ctx := []) 4000 ?_
    rw [Tryz.ntmps145]
    simp only [go_sem]
    exact Wk.renL [0, 16, 32] (by simp) (by simp) (by decide) rfl rfl
  · intro j hj
    match j, hj with
    | 0, _ => exact ⟨_, rfl⟩
    | 1, _ => exact ⟨_, rfl⟩
    | 2, _ => exact ⟨_, rfl⟩
  · refine Qg (ab (ctx := []) 4000 ?_)
    rw [Tryz.ntmps145]
    simp only [go_sem]
    refine SW.wk (s' := ⟨68, [(5, pv 35 0 0), (2, pv 0 0 0), (3, pv 1 0 0), (4, pv 2 0 0)], (35, some (co l 0 0 0 67)) :: (67, some (bR [])) :: cu 0 (c3K (.v (.slice none 0 0)) 0 0)⟩) ?_
      ((Wk.nilC 35 3 183 3 rfl rfl rfl).trans (Wk.sub (Nat.le_refl _) rfl rfl))
    · refine ab (ctx := [⟨_, (pM l.length).spec⟩]) 4000 ?_
      have hq : qP l.length () l ⟨0, 0, []⟩ := ⟨⟨Nat.zero_le _, by simp, by decide, by decide, by simp⟩, hl⟩
      rcases hr : parseF l with e | s'
      · have hr2 : fK l (aU l l.length) ⟨0, 0, []⟩ = .error e := hr
        simp only [go_sem, co, bR, c3K, Ci, Ch, (pM l.length).run_eq, (pM l.length).pan_eq, gT, fI, xs0, bN, dA, hr2, hq, aP, bO, bK, aJ]
        exact ⟨⟨rfl, rfl, rfl⟩, e, rfl, rfl, ⟨rfl, rfl, rfl⟩⟩
      · have hr2 : fK l (aU l l.length) ⟨0, 0, []⟩ = .ok s' := hr
        simp only [go_sem, co, bR, c3K, Ci, Ch, (pM l.length).run_eq, (pM l.length).pan_eq, gT, fI, xs0, bN, dA, hr2, hq, aP, bO, bK, aJ]
        refine fP (ctx := []) mixed ⟨[], [(8, [0]), (9, [1]), (10, [2])], [(4, [0]), (5, [0]), (6, [0]), (7, [0])]⟩ (by kernel_rfl) ?_
        simp only [go_sem, co, bR, c3K]
        exact ⟨⟨rfl, rfl, rfl⟩, s', rfl, 84, ⟨rfl, rfl, rfl⟩, by decide, rfl⟩
  · rintro s ⟨⟨e1, e2, e3⟩, _⟩ p hp
    simp only [List.mem_cons, List.not_mem_nil, or_false] at hp
    rcases hp with rfl | rfl | rfl
    · exact e1
    · exact e2
    · exact e3
  · rintro x s ⟨⟨e1, e2, e3⟩, _⟩ p hp
    simp only [List.mem_cons, List.not_mem_nil, or_false] at hp
    rcases hp with rfl | rfl | rfl
    · exact e1
    · exact e2
    · exact e3
  · rintro s ⟨-, s', hr, tb, hc, h3, ht⟩
    refine ab (ctx := []) 4000 ?_
    rw [Tryz.ntmps158, Tryz.results145]
    have hb := @r6 Tryz.prog 20 .nilIface (.tmp 6) ya
    have hm : gU (gU (LV.toD s.h 3)) ((bR s'.ts).els.take s'.ts.length) = some (True, [], s'.ts.map j0.enc) := by
      rw [List.take_of_length_le (by simp [bR])]
      exact nD
    have ho : (bR s'.ts).own = true := rfl
    have hz : (bR s'.ts).sz = 3 := rfl
    have hlen : s'.ts.length ≤ (bR s'.ts).els.length := by simp [bR]
    simp only [go_sem, pvs, ↓hb, hc.h0, hc.h1, hc.h2, outParse, hr, ht, AV.toD, SV.toD, LV.toD, ho, hz, hm, hlen]
  · rintro x s ⟨-, e, hr, rfl, hc⟩
    have hwk : Wk ⟨none, 3⟩ ⟨s.nx, (6, .s (.l (.v (mQ e)))) :: aw 0 (pvs [0, 1, 2]), s.h⟩ ⟨3, (6, .s (.l (.v (mQ e)))) :: aw 0 (pvs [0, 1, 2]), cu 0 (c3K (.v (.slice none 0 0)) 0 0)⟩ := by
      refine Wk.renL [0, 1, 2] (by decide) (Nat.le_refl 3) (by decide) rfl ?_
      simp only [c3K, cu, List.map_cons, List.map_nil, List.getD_eq_getElem?_getD, List.getElem?_cons_zero, List.getElem?_cons_succ, Option.getD_some, hc.h0, hc.h1, hc.h2]
      rfl
    refine SW.wk ?_ hwk
    refine ab (ctx := []) 4000 ?_
    rw [Tryz.ntmps158, Tryz.results145]
    have hb : ∀ u v, _ := fun u v => @pN Tryz.prog 20 u v .nilIface (.tmp 6) ya
    have hs : E7 (.agg #[.int .i64 e]) = some (.agg [.v (.int .i64 e)]) := rfl
    simp only [go_sem, pvs, ↓hb, hs, mQ, rv, c3K]
    refine fP (ctx := []) mixed ⟨[], [(2, [0]), (3, [1]), (4, [2])], [(0, [0, 1]), (1, [0, 1])]⟩ (by kernel_rfl) ?_
    simp only [go_sem, outParse, hr]
  · intro s ρ al a w1 h2 H2
    exact hret _ ρ al a w1 h2 H2

end Go.Proofs.YthcoegkfpinlfaaGreatDoor.Ex

/-! ## Parse, Eval -/
namespace Go.Proofs.YthcoegkfpinlfaaGreatDoor.Ex
open Go.RowKit
set_option maxRecDepth 100000

theorem Nj (args : Array Value) (w : World) : (callFunc 146 args).run Tryz.prog w = .ok (.enter 146 args) w := by go_simp
/-- terms as the elder contracts see them -/
theorem Mf {M : Mem} {w : World} (hM : ∀ b o y, M b o = some y → w.cell? ⟨b, o, none⟩ = some y) {ts : List Term} {v : Value} (h : ARep ρ0 (al0 M) ((tSl 3 j0).enc ts) v) : ∃ A cap, v = .slice A ts.length cap ∧ Terms w w.heap.size A ts := by
  have e : ts.map j0.enc = (ts.map Term.cells).map fun e => e.map .v := by
    rw [List.map_map]; exact List.map_congr_left fun t _ => rfl
  have hfl : (ts.map Term.cells).flatten = ts.flatMap Term.cells := by rw [List.flatMap_def]
  have hl : ∀ ts : List Term, (ts.flatMap Term.cells).length = ts.length * 3 := by
    intro ts
    induction ts with
    | nil => rfl
    | cons t r ih => rw [List.flatMap_cons, List.length_append, ih, List.length_cons]; show 3 + _ = _; omega
  have h' : DRep M (.sd 3 ((ts.map Term.cells).map fun e => e.map .v)) v := by rw [← e]; exact h
  obtain ⟨A, cap, rfl, hs⟩ := QV hM (by rw [hfl, hl, List.length_map]) (fun hne => by
    intro h0
    rw [hfl] at h0
    have := hl ts
    rw [h0] at this
    have : ts = [] := List.eq_nil_of_length_eq_zero (by simp at this; omega)
    rw [this] at hne
    exact hne rfl) h'
  rw [hfl, List.length_map] at hs
  exact ⟨A, cap, by rw [List.length_map], hs⟩

def parseS : bq Tryz.prog 145 := QO _ _ J9 (tSl 4 mg) (fun l => l.length ≤ 1000000) outParse (by rw [Tryz.ntmps145]; decide) fun l hl => Eg l hl
theorem parse_run {id : Nat} {h : ag} {args : List AV} : parseS.run id h args = bV (aI (tSl 4 mg) (fun l => l.length ≤ 1000000)) outParse h args := rfl
theorem parse_pan {h : ag} {id : Nat} {args : List AV} : parseS.pan id h args = ca (aI (tSl 4 mg) (fun l => l.length ≤ 1000000)) outParse h args := rfl

def outEval (ts : List Term) : AV := .tup [.agg [.v (.int .i64 (evalAll ts).1.add), .v (.string (evalAll ts).1.plus), .v (.string (evalAll ts).1.minus)], .l (.v (.int .i64 (evalAll ts).2))]
def evalS : bq Tryz.prog 146 := KP _ Nj (tSl 3 j0) (fun ts => ts.length ≤ 1099511627776 ∧ ∀ t ∈ ts, t.sym.size ≤ 140737488355328) outEval (fun _ => rfl) fun ts hs M w v hM hv => by
  obtain ⟨A, cap, rfl, hT⟩ := Mf hM hv
  refine (Kg A cap ts w hT hs.1 hs.2).mono fun e w' h => ?_
  obtain ⟨r, x, h1, h2, h3⟩ := h
  refine ⟨⟨_, h2, [.agg #[.int .i64 r.add, .string r.plus, .string r.minus], .int .i64 x], rfl, ⟨[.int .i64 r.add, .string r.plus, .string r.minus], rfl, ?_⟩, ?_, trivial⟩, h3⟩
  · rw [h1]; exact ⟨rfl, rfl, rfl, rfl, rfl, rfl, trivial⟩
  · rw [h1]; rfl
theorem eval_run {id : Nat} {h : ag} {args : List AV} : evalS.run id h args = bV (aI (tSl 3 j0) (fun ts => ts.length ≤ 1099511627776 ∧ ∀ t ∈ ts, t.sym.size ≤ 140737488355328)) (fun ts => .ret (outEval ts)) h args := rfl
theorem eval_pan {h : ag} {id : Nat} {args : List AV} : evalS.pan id h args = ca (aI (tSl 3 j0) (fun ts => ts.length ≤ 1099511627776 ∧ ∀ t ∈ ts, t.sym.size ≤ 140737488355328)) (fun ts => .ret (outEval ts)) h args := rfl


end Go.Proofs.YthcoegkfpinlfaaGreatDoor.Ex
