/- The parser of package expr: fail, next, put, sign. The parser of package expr: opened, row. The parser of package expr: the levels, operand. The parser of package expr: operand. The parser of package expr: Parse. -/
import Derived.Test.YtnhbidpdadkcjaaGreatDoorJ11
import Derived.Test.YtnhbidpdadkcjaaGreatDoorJ23
import Derived.Test.YtnhbidpdadkcjaaGreatDoorJ29
/-! ## N2 -/
set_option linter.unusedVariables false
set_option linter.unusedSimpArgs false
namespace Go.Proofs.YtnhbidpdadkcjaaGreatDoor.Ex
open Go.RowKit

def kz : ov Term where
  dec := fun | [.v (.int .i64 k), .v (.int .i64 n), .v (.string s)] => some ⟨k, n, s⟩ | _ => none
  enc := fun t => [.v (.int .i64 t.kind), .v (.int .i64 t.n), .v (.string t.sym)]
  inv := by
    intro c x h
    split at h
    · injection h with h; subst h; rfl
    · cases h
  back := by intro x; rfl

/-- a fault -/
def fa (e : Int) : Value := .iface 236 (.agg #[.int .i64 e])

/-! fail -/
theorem OL (args : Array Value) (w : World) : (callFunc 289 args).run Tryz.prog w = .ok (.enter 289 args) w := by go_simp
def zg : bi Tryz.prog 289 :=
  mk1 _ _ _ Tryz.func289 rfl OL (bq .i64) ((fun _ => True)) ((fun e => .pan (fa e))) (by rw [Tryz.ntmps289]; decide) (fun e _ => by
  refine aa (ctx := []) 4000 ?_
  rw [Tryz.ntmps289, Tryz.results289]
  simp only [Tryz.f289, Option.getD_some, aC]
  simp only [go_sem, fa])
theorem dO {id : Nat} {h : ah} {args : List AV} : (zg).run id h args = bT (ba (bq .i64) ((fun _ => True))) ((fun e => .pan (fa e))) h args := rfl
theorem dN {id : Nat} {h : ah} {args : List AV} : (zg).pan id h args = bU (ba (bq .i64) ((fun _ => True))) ((fun e => .pan (fa e))) h args := rfl

/-! sign -/
set_option maxHeartbeats 2000000 in
theorem Bo (k : Int) (h : 3 ≤ k ∧ k ≤ 14) : SW Tryz.prog ⟨none, 0⟩ Tryz.f268.ntmps (Tryz.f268.body.getD .skip) ⟨0, aC 0 [(bq .i64).enc k], []⟩ (es Tryz.prog Tryz.f268.results.toList (.ret (sv (rN k)))) := by
  refine aa (ctx := []) 4000 ?_
  rw [Tryz.ntmps268, Tryz.results268]
  simp only [Tryz.f268, Option.getD_some, aC]
  have hk : k = 3 ∨ k = 4 ∨ k = 5 ∨ k = 6 ∨ k = 7 ∨ k = 8 ∨ k = 9 ∨ k = 10 ∨ k = 11 ∨ k = 12 ∨ k = 13 ∨ k = 14 := by omega
  rcases hk with rfl | rfl | rfl | rfl | rfl | rfl | rfl | rfl | rfl | rfl | rfl | rfl
  all_goals simp only [go_sem]
  all_goals rfl

theorem Ej (args : Array Value) (w : World) : (callFunc 268 args).run Tryz.prog w = .ok (.enter 268 args) w := by go_simp
def Fs : bi Tryz.prog 268 :=
  mk1 _ _ _ Tryz.func268 rfl Ej (bq .i64) ((fun k => 3 ≤ k ∧ k ≤ 14)) ((fun k => .ret (sv (rN k)))) (by rw [Tryz.ntmps268]; decide) (fun k h => Bo k h)
theorem GI {id : Nat} {h : ah} {args : List AV} : (Fs).run id h args = bT (ba (bq .i64) ((fun k => 3 ≤ k ∧ k ≤ 14))) ((fun k => .ret (sv (rN k)))) h args := rfl
theorem GH {id : Nat} {h : ah} {args : List AV} : (Fs).pan id h args = bU (ba (bq .i64) ((fun k => 3 ≤ k ∧ k ≤ 14))) ((fun k => .ret (sv (rN k)))) h args := rfl

/-! The parser's blocks: itself, its terms -/
def cL (l : List Tok) (a : Nat) (o : Int) (n tb : Nat) : Blk := ⟨true, 239, 4, [[.d (.sd 4 (l.map lN.enc)), .v (.int .i64 a), .v (.int .i64 o), .sl tb 0 n]]⟩
def cx (ts : List Term) : Blk := ⟨true, 242, 3, (ts.map kz.enc).map cG⟩

def oy : List LV → Option Term
  | [.v (.int .i64 k), .v (.int .i64 n), .v (.string s)] => some ⟨k, n, s⟩
  | _ => none
theorem cr (ts : List Term) : bL oy ((ts.map kz.enc).map cG) = some ts := by
  rw [List.map_map]
  exact jR (d := oy) (e := cG ∘ kz.enc) (fun _ => rfl) ts
theorem PZ {rows : List (List LV)} {ts : List Term} (h : bL oy rows = some ts) : rows = (ts.map kz.enc).map cG := by
  rw [List.map_map]
  refine jS (d := oy) (e := cG ∘ kz.enc) (fun c x hc => ?_) h
  unfold oy at hc
  split at hc
  · injection hc with hc; subst hc; rfl
  · cases hc

def fT (h : ah) : AV → Option (List Nat × List Tok × PS)
  | .s (.l (.p b 0 0)) => match hget h b with
    | some ⟨true, T, 4, [[.d (.sd 4 els), .v (.int .i64 a), .v (.int .i64 o), .sl tb 0 n]]⟩ => match dT lN.dec els, hget h tb with
      | some l, some ⟨true, T2, 3, rows⟩ => match bL oy rows with
        | some ts => if T = 239 ∧ T2 = 242 ∧ 0 ≤ a ∧ n = ts.length ∧ b ≠ tb then some ([b, tb], l, ⟨a.toNat, o, ts⟩) else none
        | none => none
      | _, _ => none
    | _ => none
  | _ => none

theorem F7 {h : ah} {A : AV} {bs : List Nat} {l : List Tok} {s : PS} (hd : fT h A = some (bs, l, s)) :
    ∃ b tb, A = pv b 0 0 ∧ bs = [b, tb] ∧ b ≠ tb ∧ hget h b = some (cL l s.at_ s.op s.ts.length tb) ∧ hget h tb = some (cx s.ts) := by
  unfold fT at hd
  split at hd
  case h_2 => cases hd
  rename_i b
  split at hd
  case h_2 => cases hd
  rename_i T els a o tb n hb
  split at hd
  case h_2 => cases hd
  rename_i l' T2 rows hl ht
  split at hd
  case h_2 => cases hd
  rename_i ts hts
  split at hd
  case isFalse => cases hd
  rename_i hc
  obtain ⟨rfl, rfl, ha, rfl, hne⟩ := hc
  injection hd with hd
  injection hd with e1 hd
  injection hd with e2 e3
  subst e1
  subst e2
  subst e3
  refine ⟨b, tb, rfl, rfl, hne, ?_, ?_⟩
  · rw [hb, cL, ← eN lN hl]
    simp only [Int.toNat_of_nonneg ha]
  · rw [ht, cx, PZ hts]

theorem zd {h h' : ah} (hs : ∀ b k, hget h b = some k → hget h' b = some k) {A : AV} {r : List Nat × List Tok × PS} (hd : fT h A = some r) : fT h' A = some r := by
  unfold fT at hd ⊢
  split at hd
  case h_2 => cases hd
  split at hd
  case h_2 => cases hd
  rename_i hb
  simp only [hs _ _ hb]
  split at hd
  case h_2 => cases hd
  rename_i hl ht
  simp only [hl, hs _ _ ht]
  exact hd

/-- what a part of the parser ends with -/
def j8 (l : List Tok) : Except Int (AV × PS) → RO
  | .ok (r, s) => .ret r [some (cL l s.at_ s.op s.ts.length 1)] [cx s.ts]
  | .error e => .pan (fa e)

theorem cj {l : List Tok} {r : AV} {s : PS} : j8 l (.ok (r, s)) = .ret r [some (cL l s.at_ s.op s.ts.length 1)] [cx s.ts] := rfl
theorem bk {l : List Tok} {e : Int} : j8 l (.error e) = .pan (fa e) := rfl

/-- the arguments behind the parser: such as hang on no block -/
structure Xs (X : Type) where
  dec : List AV → Option X
  enc : X → List AV
  len : Nat
  enc_len : ∀ x, (enc x).length = len
  ok : ∀ {zs : List AV} {x : X}, dec zs = some x → ∀ {ρ ρ' : Nat → Loc} {al al' : Al} {vals : List Value}, al.M.le al'.M → AsRep ρ al zs vals → AsRep ρ' al' (enc x) vals

def ir {X : Type} (T : Xs X) (q : X → List Tok → PS → Prop) (h : ah) : List AV → Option (Prop × List Nat × (X × List Tok × PS))
  | A :: zs => match fT h A, T.dec zs with
    | some (bs, l, s), some x => some (q x l s, bs, (x, l, s))
    | _, _ => none
  | [] => none

/-- A part of the parser. -/
def mkX {X : Type} (f : FuncId) (fn : Func) (c : Code) (hf : Tryz.prog.funcs[f]? = some fn) (hb : fn.body = some c)
    (hen : ∀ (args : Array Value) (w : World), (callFunc f args).run Tryz.prog w = .ok (.enter f args) w) (T : Xs X) (q : X → List Tok → PS → Prop) (F : X → List Tok → PS → Except Int (AV × PS)) (hn : T.len + 1 ≤ fn.ntmps)
    (body : ∀ x l s, q x l s → SW Tryz.prog ⟨none, 1⟩ fn.ntmps c ⟨2, aC 0 (pv 0 0 0 :: T.enc x), bB 0 [cL l s.at_ s.op s.ts.length 1, cx s.ts]⟩ (dy Tryz.prog fn.results.toList 1 (j8 l (F x l s)))) : bi Tryz.prog f :=
  mkR 1 2 (by decide) f fn c hf hb hen (ir T q) (fun x => pv 0 0 0 :: T.enc x.1) (fun x => [cL x.2.1 x.2.2.at_ x.2.2.op x.2.2.ts.length 1, cx x.2.2.ts]) (fun x => j8 x.2.1 (F x.1 x.2.1 x.2.2))
    (by
      intro h h' args r hs hd
      unfold ir at hd ⊢
      split at hd
      · split at hd
        · rename_i h1 h2
          rw [zd hs h1, h2]
          exact hd
        · cases hd
      · cases hd)
    (by
      intro h zs q' bs x hd hq
      unfold ir at hd
      split at hd
      case h_2 => cases hd
      rename_i A zs'
      split at hd
      case h_2 => cases hd
      rename_i bs' l s x' h1 h2
      injection hd with hd
      injection hd with e1 hd
      injection hd with e2 e3
      subst e2
      subst e3
      obtain ⟨b, tb, rfl, rfl, hne, hb1, hb2⟩ := F7 h1
      refine ⟨by rw [List.length_cons, T.enc_len]; exact hn, rfl, rfl, by simp [hne], fun d => ⟨?_, ?_⟩⟩
      · intro j b' k hj hk
        match j, hj, hk with
        | 0, hj, hk =>
          simp at hj hk
          subst hj
          subst hk
          exact ⟨rfl, by rw [hb1]; rfl⟩
        | 1, hj, hk =>
          simp at hj hk
          subst hj
          subst hk
          refine ⟨rfl, ?_⟩
          rw [hb2]
          simp only [cx, Blk.ren, jF]
      · intro ρ al vals hA
        match vals, hA with
        | v :: vs, ⟨a, r⟩ => exact ⟨a, T.ok (al := al) h2 (Mem.le_refl _) r⟩)
    (by
      intro h zs q' bs x hd hq
      unfold ir at hd
      split at hd
      case h_2 => cases hd
      split at hd
      case h_2 => cases hd
      injection hd with hd
      injection hd with e1 hd
      injection hd with e2 e3
      subst e1
      subst e3
      exact body _ _ _ hq)

def xs0 : Xs Unit where
  dec := fun | [] => some () | _ => none
  enc := fun _ => []
  len := 0
  enc_len := fun _ => rfl
  ok := by
    intro zs x h ρ ρ' al al' vals _ hA
    split at h
    · match vals, hA with
      | [], _ => trivial
    · cases h
def By : Xs Term where
  dec := fun | [A] => (jr kz).dec A | _ => none
  enc := fun t => [(jr kz).enc t]
  len := 1
  enc_len := fun _ => rfl
  ok := by
    intro zs x h ρ ρ' al al' vals hM hA
    split at h
    · match vals, hA with
      | [v], ⟨a, _⟩ => exact ⟨((jr kz).ok h a).flat hM (by rfl), trivial⟩
    · cases h

/-! next -/
theorem Ul (t : Term) : kz.enc t = [.v (.int .i64 t.kind), .v (.int .i64 t.n), .v (.string t.sym)] := rfl
theorem TN {l : List Tok} {a : Nat} {o : Int} {n tb : Nat} : (cL l a o n tb).own = true := rfl
theorem Um {ts : List Term} : (cx ts).own = true := rfl

/-- the end: the parser's two blocks as they are now -/
theorem kq {l : List Tok} {s' : PS} {r : AV} {st : St} {tb : Nat} (hr : r.plain = true) (h1 : hget st.h 0 = some (cL l s'.at_ s'.op s'.ts.length tb)) (h2 : hget st.h tb = some (cx s'.ts)) (hn : tb ≠ 0) :
    oH 1 st (j8 l (.ok (r, s'))) (some r) := by
  refine ⟨hr, [some (cL l s'.at_ s'.op s'.ts.length 1)], [cx s'.ts], rfl, rfl, by simp, by simp [cL], by simp [cx], Wk.ren [0, tb] (by intro j hj; have : j = 0 := (by simpa using hj); subst this; rfl) (Nat.le_refl _) (by simpa using fun h => hn h.symm) (fun p hp => by cases hp) ?_⟩
  intro p hp k hk
  simp only [gm, bB, List.cons_append, List.nil_append, List.mem_cons, List.not_mem_nil, or_false] at hp
  rcases hp with rfl | rfl
  · simp only [Option.some.injEq] at hk
    subst hk
    simp only [List.getD_eq_getElem?_getD, List.getElem?_cons_zero, Option.getD_some, h1]
    rfl
  · simp only [Option.some.injEq] at hk
    subst hk
    simp only [List.getD_eq_getElem?_getD, List.getElem?_cons_succ, List.getElem?_cons_zero, Option.getD_some, h2]
    simp only [cx, Blk.ren, jF]

set_option maxHeartbeats 1000000 in
theorem A8 (l : List Tok) (s : PS) (h : s.at_ ≤ l.length ∧ l.length ≤ maxLen) : SW Tryz.prog ⟨none, 1⟩ Tryz.f267.ntmps (Tryz.f267.body.getD .skip) ⟨2, aC 0 [pv 0 0 0], bB 0 [cL l s.at_ s.op s.ts.length 1, cx s.ts]⟩ (dy Tryz.prog Tryz.f267.results.toList 1 (j8 l (.ok (sv (nextF l s), s)))) := by
  refine aa (ctx := []) 4000 ?_
  rw [Tryz.ntmps267, Tryz.results267]
  simp only [Tryz.f267, Option.getD_some, aC]
  simp only [go_sem, cL, cx]
  rcases hl : l[s.at_]? with _ | t
  · have hlt : ¬ (s.at_ : Int) < l.length := by have := List.getElem?_eq_none_iff.1 hl; omega
    refine bI (ctx := []) mixed [] (by kernel_rfl) ?_
    simp only [go_sem, hlt, List.length_map]
    have e : nextF l s = ⟨#[]⟩ := by unfold nextF; rw [hl]; rfl
    rw [e]
    exact kq rfl rfl rfl (by decide)
  · have hlt : (s.at_ : Int) < l.length := by have := (List.getElem?_eq_some_iff.1 hl).1; omega
    refine bI (ctx := []) mixed [] (by kernel_rfl) ?_
    simp only [go_sem, hlt, List.length_map, hl, lM]
    refine ⟨fun hk => ?_, fun hk => ?_⟩
    · refine bI (ctx := []) mixed [] (by kernel_rfl) ?_
      simp only [go_sem, hlt, List.length_map, hl, lM]
      have e : nextF l s = t.text := by unfold nextF; rw [hl]; simp only [if_pos hk]
      rw [e]
      exact kq rfl rfl rfl (by decide)
    · have e : nextF l s = ⟨#[]⟩ := by unfold nextF; rw [hl]; simp only [if_neg hk]; rfl
      rw [e]
      exact kq rfl rfl rfl (by decide)

theorem ON (args : Array Value) (w : World) : (callFunc 267 args).run Tryz.prog w = .ok (.enter 267 args) w := by go_simp
def CK : bi Tryz.prog 267 :=
  mkX _ _ _ Tryz.func267 rfl ON xs0 ((fun _ l s => s.at_ ≤ l.length ∧ l.length ≤ maxLen)) ((fun _ l s => .ok (sv (nextF l s), s))) (by rw [Tryz.ntmps267]; decide) (fun _ l s h => A8 l s h)
theorem fg {id : Nat} {h : ah} {args : List AV} : (CK).run id h args = gu 1 (ir xs0 ((fun _ l s => s.at_ ≤ l.length ∧ l.length ≤ maxLen))) (fun x => j8 x.2.1 (((fun _ l s => .ok (sv (nextF l s), s))) x.1 x.2.1 x.2.2)) id h args := rfl
theorem ff {id : Nat} {h : ah} {args : List AV} : (CK).pan id h args = fX (ir xs0 ((fun _ l s => s.at_ ≤ l.length ∧ l.length ≤ maxLen))) (fun x => j8 x.2.1 (((fun _ l s => .ok (sv (nextF l s), s))) x.1 x.2.1 x.2.2)) h args := rfl

/-! put -/
theorem Nc {ts : List Term} {t : Term} : (ts.map kz.enc).map cG ++ [[.v (.int .i64 t.kind), .v (.int .i64 t.n), .v (.string t.sym)]] = ((ts ++ [t]).map kz.enc).map cG := by
  rw [List.map_append, List.map_append]; rfl

set_option maxHeartbeats 1000000 in
theorem RX (t : Term) (l : List Tok) (s : PS) (h : s.ts.length ≤ 256) : SW Tryz.prog ⟨none, 1⟩ Tryz.f269.ntmps (Tryz.f269.body.getD .skip) ⟨2, aC 0 [pv 0 0 0, (jr kz).enc t], bB 0 [cL l s.at_ s.op s.ts.length 1, cx s.ts]⟩ (dy Tryz.prog Tryz.f269.results.toList 1 (j8 l ((kE t s).map fun s => (iA, s)))) := by
  refine aa (ctx := [⟨_, zg⟩]) 4000 ?_
  rw [Tryz.ntmps269, Tryz.results269]
  simp only [Tryz.f269, Option.getD_some, aC]
  have hb : (s.ts.length + 1) * 32 ≤ 140737488355328 := by omega
  have hm : s.ts.length + 1 ≤ maxLen := by unfold maxLen; omega
  simp only [go_sem, cL, cx, Ul]
  refine bI (ctx := []) mixed [7, 10] (by kernel_rfl) ?_
  simp only [go_sem, hb, hm, Nc, dO, dN]
  refine ⟨fun hc => ?_, fun hc => ?_⟩
  · rw [kE, if_pos (by omega)]; rfl
  · rw [kE, if_neg (by omega)]
    refine kq (s' := { s with ts := s.ts ++ [t] }) (tb := 130) rfl ?_ rfl (by decide)
    rw [List.length_append]; rfl

theorem Rd (args : Array Value) (w : World) : (callFunc 269 args).run Tryz.prog w = .ok (.enter 269 args) w := by go_simp
def MB : bi Tryz.prog 269 :=
  mkX _ _ _ Tryz.func269 rfl Rd By ((fun _ _ s => s.ts.length ≤ 256)) ((fun t _ s => (kE t s).map fun s => (iA, s))) (by rw [Tryz.ntmps269]; decide) (fun t l s h => RX t l s h)
theorem fZ {id : Nat} {h : ah} {args : List AV} : (MB).run id h args = gu 1 (ir By ((fun _ _ s => s.ts.length ≤ 256))) (fun x => j8 x.2.1 (((fun t _ s => (kE t s).map fun s => (iA, s))) x.1 x.2.1 x.2.2)) id h args := rfl
theorem fY {id : Nat} {h : ah} {args : List AV} : (MB).pan id h args = fX (ir By ((fun _ _ s => s.ts.length ≤ 256))) (fun x => j8 x.2.1 (((fun t _ s => (kE t s).map fun s => (iA, s))) x.1 x.2.1 x.2.2)) h args := rfl

end Go.Proofs.YtnhbidpdadkcjaaGreatDoor.Ex

/-! ## N3 -/
namespace Go.Proofs.YtnhbidpdadkcjaaGreatDoor.Ex
open Go.RowKit

/-- what a part of the parser that has no result does -/
def ku (r : PR) : Except Int (AV × PS) := r.map fun s => (iA, s)
theorem cw {s : PS} : ku (.ok s) = .ok (iA, s) := rfl
theorem bn {e : Int} : ku (.error e) = .error e := rfl

/-- so many tokens, at most N left -/
def qP (N : Nat) : Unit → List Tok → PS → Prop := fun _ l s => POk l N s ∧ l.length ≤ 1000000

/-- A part of the parser that reads where at most N tokens are left. -/
structure iC (N : Nat) where
  f : FuncId
  F : List Tok → PS → PR
  spec : bi Tryz.prog f
  run_eq : ∀ (id : Nat) (h : ah) (args : List AV), spec.run id h args = gu 1 (ir xs0 (qP N)) (fun x => j8 x.2.1 (ku (F x.2.1 x.2.2))) id h args
  pan_eq : ∀ (id : Nat) (h : ah) (args : List AV), spec.pan id h args = fX (ir xs0 (qP N)) (fun x => j8 x.2.1 (ku (F x.2.1 x.2.2))) h args
  goes : ∀ l, BA l N (F l)
  ne : f ≠ 289 ∧ f ≠ 267 ∧ f ≠ 269 ∧ f ≠ 268

def qb : Xs FuncId where
  dec := fun | [A] => tFn.dec A | _ => none
  enc := fun g => [tFn.enc g]
  len := 1
  enc_len := fun _ => rfl
  ok := by
    intro zs x h ρ ρ' al al' vals hM hA
    split at h
    · match vals, hA with
      | [v], ⟨a, _⟩ => exact ⟨(tFn.ok h a).flat hM (by rfl), trivial⟩
    · cases h

theorem Bx {s : PS} {l : List Tok} (h1 : s.at_ ≤ l.length) (h2 : l.length ≤ 1000000) : IntKind.i64.wrap ((s.at_ : Int) + 1) = ((s.at_ + 1 : Nat) : Int) := by rw [IntKind.wrap_i64]; omega

set_option maxHeartbeats 1000000 in
theorem zK {N : Nat} (p : iC N) (l : List Tok) (s : PS) (h : POk l (N + 1) s ∧ s.at_ < l.length ∧ l.length ≤ 1000000) :
    SW Tryz.prog ⟨none, 1⟩ Tryz.f299.ntmps (Tryz.f299.body.getD .skip) ⟨2, aC 0 [pv 0 0 0, tFn.enc p.f], bB 0 [cL l s.at_ s.op s.ts.length 1, cx s.ts]⟩ (dy Tryz.prog Tryz.f299.results.toList 1 (j8 l (ku (eZ (p.F l) s)))) := by
  obtain ⟨hok, hlt, hlen⟩ := h
  obtain ⟨n1, n2, n3, n4⟩ := p.ne
  refine aa (ctx := [⟨_, p.spec⟩, ⟨_, zg⟩]) 4000 ?_
  rw [Tryz.ntmps299, Tryz.results299]
  simp only [Tryz.f299, Option.getD_some, aC]
  have e1 := Bx hok.le hlen
  have o0 := hok.op0
  have o1 := hok.op1
  have e2 : IntKind.i64.wrap (s.op + 1) = s.op + 1 := by rw [IntKind.wrap_i64]; omega
  by_cases hc : 64 < s.op + 1
  · simp only [go_sem, cL, cx, e1, e2, hc, dO, dN, n1]
    rw [eZ, if_pos hc]; rfl
  · have hp : qP N () l ⟨s.at_ + 1, s.op + 1, s.ts⟩ := ⟨⟨by show s.at_ + 1 ≤ _; omega, by have := hok.rem; show _ ≤ s.at_ + 1 + N; omega, by show 0 ≤ s.op + 1; omega, by show s.op + 1 ≤ 64; omega, hok.ts⟩, hlen⟩
    rcases hr : p.F l ⟨s.at_ + 1, s.op + 1, s.ts⟩ with e | s'
    · simp only [go_sem, cL, cx, e1, e2, hc, dO, dN, n1, p.run_eq, p.pan_eq, ir, fT, xs0, cr, hr, hp, bn, cw, cj, bk]
      rw [eZ, if_neg hc, hr]; rfl
    · have hg := p.goes l _ _ hp.1 hr
      simp only at hg
      have e3 : IntKind.i64.wrap (s'.op - 1) = s'.op - 1 := by rw [IntKind.wrap_i64]; omega
      simp only [go_sem, cL, cx, e1, e2, hc, dO, dN, n1, p.run_eq, p.pan_eq, ir, fT, xs0, cr, hr, hp, bn, cw, cj, bk, e3]
      rw [eZ, if_neg hc, hr]
      exact kq (s' := { s' with op := s'.op - 1 }) (tb := 370) rfl rfl rfl (by decide)

theorem HJ (args : Array Value) (w : World) : (callFunc 299 args).run Tryz.prog w = .ok (.enter 299 args) w := by go_simp

/-- 'opened' with either of two parts to read -/
def Ba {N : Nat} (p q : iC N) : bi Tryz.prog 299 :=
  mkX _ _ _ Tryz.func299 rfl HJ qb (fun g l s => (g = p.f ∨ g = q.f) ∧ POk l (N + 1) s ∧ s.at_ < l.length ∧ l.length ≤ 1000000)
    (fun g l s => ku (eZ (if g = p.f then p.F l else q.F l) s)) (by rw [Tryz.ntmps299]; decide)
    (fun g l s h => by
      by_cases hg : g = p.f
      · subst hg; rw [if_pos rfl]; exact zK p l s h.2
      · rw [if_neg hg]
        obtain rfl : g = q.f := h.1.resolve_left hg
        exact zK q l s h.2)
theorem dI {N : Nat} {p q : iC N} {id : Nat} {h : ah} {args : List AV} : (Ba p q).run id h args = gu 1 (ir qb (fun g l s => (g = p.f ∨ g = q.f) ∧ POk l (N + 1) s ∧ s.at_ < l.length ∧ l.length ≤ 1000000)) (fun x => j8 x.2.1 (ku (eZ (if x.1 = p.f then p.F x.2.1 else q.F x.2.1) x.2.2))) id h args := rfl
theorem dH {N : Nat} {p q : iC N} {id : Nat} {h : ah} {args : List AV} : (Ba p q).pan id h args = fX (ir qb (fun g l s => (g = p.f ∨ g = q.f) ∧ POk l (N + 1) s ∧ s.at_ < l.length ∧ l.length ≤ 1000000)) (fun x => j8 x.2.1 (ku (eZ (if x.1 = p.f then p.F x.2.1 else q.F x.2.1) x.2.2))) h args := rfl

/-! row -/
theorem de {k n : Int} {z : ByteArray} : By.dec [.s (.agg [.v (.int .i64 k), .v (.int .i64 n), .v (.string z)])] = some ⟨k, n, z⟩ := rfl
theorem wkP {st : St} {l : List Tok} {q : PS} {X : et} {tb : Nat} (h1 : hget st.h 0 = some (cL l q.at_ q.op q.ts.length tb)) (h2 : hget st.h tb = some (cx q.ts)) (hn : tb ≠ 0) (hx : 2 ≤ st.nx) (hX : X.map (fun p => dk st.t p.1) = X.map fun p => p.2.ren fun b => [0, tb].getD b st.nx) : Wk ⟨none, 1⟩ st ⟨2, X, bB 0 [cL l q.at_ q.op q.ts.length 1, cx q.ts]⟩ := by
  refine Wk.ren [0, tb] (by intro j hj; have : j = 0 := (by simpa using hj); subst this; rfl) (Nat.le_refl _) (by simpa using fun h => hn h.symm) (fun p hp => List.map_inj_left.1 hX p hp) ?_
  intro p hp k hk
  simp only [bB, List.mem_cons, List.not_mem_nil, or_false] at hp
  rcases hp with rfl | rfl
  · simp only [Option.some.injEq] at hk
    subst hk
    simp only [List.getD_eq_getElem?_getD, List.getElem?_cons_zero, Option.getD_some, h1]
    rfl
  · simp only [Option.some.injEq] at hk
    subst hk
    simp only [List.getD_eq_getElem?_getD, List.getElem?_cons_succ, List.getElem?_cons_zero, Option.getD_some, h2]
    simp only [cx, Blk.ren, jF]

theorem vq {s : ByteArray} : ∀ {a : List Int} {k f : Int}, di s (a ++ [k]) f = if s ≠ emp ∧ s = rN k then k else di s a f
  | [], k, f => by rw [List.nil_append, di, di, di]
  | x :: a, k, f => by rw [List.cons_append, di, vq, di]

theorem Fo {l : List Tok} {read : PS → PR} {kinds : List Int} {q : PS} : ∀ {m : Nat}, l.length ≤ q.at_ + m → gw l read kinds m q =
    if di (nextF l q) kinds 0 = 0 then .ok q else
    match read ⟨q.at_ + 1, q.op, q.ts⟩ with
    | .error e => .error e
    | .ok s' => match kE ⟨di (nextF l q) kinds 0, 0, emp⟩ s' with
      | .error e => .error e
      | .ok s'' => gw l read kinds (m - 1) s''
  | 0, h => by
    have : di (nextF l q) kinds 0 = 0 := Classical.byContradiction fun hc => by have := tJ (uq hc); omega
    rw [if_pos this, gw]
  | m + 1, h => by rw [gw]; rfl

set_option maxHeartbeats 2000000 in
theorem Si {N : Nat} (p : iC N) (kinds : List Int) (hk : ∀ k ∈ kinds, 3 ≤ k ∧ k ≤ 14) (hk2 : kinds.length ≤ 10) (l : List Tok) (s : PS) (h : qP N () l s) :
    SW Tryz.prog ⟨none, 1⟩ Tryz.f252.ntmps (Tryz.f252.body.getD .skip) ⟨2, aC 0 [pv 0 0 0, tFn.enc p.f, (tSl 1 (gj .i64)).enc kinds], bB 0 [cL l s.at_ s.op s.ts.length 1, cx s.ts]⟩ (dy Tryz.prog Tryz.f252.results.toList 1 (j8 l (ku (fB l (p.F l) kinds s)))) := by
  obtain ⟨hok, hlen⟩ := h
  obtain ⟨n1, n2, n3, n4⟩ := p.ne
  refine aa (ctx := [⟨_, p.spec⟩]) 4000 ?_
  rw [Tryz.ntmps252, Tryz.results252]
  simp only [Tryz.f252, Option.getD_some, aC]
  have hq : qP N () l s := ⟨hok, hlen⟩
  rcases hr : p.F l s with e | s'
  · simp only [go_sem, cL, cx, p.run_eq, p.pan_eq, ir, fT, xs0, cr, hr, hq, bn, cw, cj, bk]
    rw [fB, hr]; rfl
  · have hg := p.goes l _ _ hok hr
    simp only [go_sem, cL, cx, p.run_eq, p.pan_eq, ir, fT, xs0, cr, hr, hq, bn, cw, cj, bk]
    refine cW (ι := Nat × PS) (fun i => l.length ≤ i.2.at_ + i.1 ∧ POk l N i.2 ∧ gw l (p.F l) kinds i.1 i.2 = fB l (p.F l) kinds s)
      (fun i => ⟨2, aC 0 [pv 0 0 0, tFn.enc p.f, (tSl 1 (gj .i64)).enc kinds], bB 0 [cL l i.2.at_ i.2.op i.2.ts.length 1, cx i.2.ts]⟩) (fun i => i.1) (l.length, s')
      ⟨by show l.length ≤ s'.at_ + l.length; omega, ⟨by show s'.at_ ≤ _; omega, by have := hok.rem; show _ ≤ s'.at_ + N; omega, by show 0 ≤ s'.op; rw [hg.2.2.1]; exact hok.op0, by show s'.op ≤ 64; rw [hg.2.2.1]; exact hok.op1, hg.2.2.2⟩, by rw [fB, hr]⟩
      (wkP (tb := 34) rfl rfl (by decide) (by simp) rfl) ?_
    · rintro ⟨m, q⟩ ⟨hm, hqk, hR⟩
      simp only at hm hqk hR
      refine aa (ctx := [⟨_, p.spec⟩, ⟨_, CK⟩, ⟨_, Fs⟩, ⟨_, MB⟩]) 4000 ?_
      simp only [go_sem, cL, cx]
      refine cW (ι := Nat) (fun j => j ≤ kinds.length)
        (fun j => ⟨2, [(0, pv 0 0 0), (1, tFn.enc p.f), (2, (tSl 1 (gj .i64)).enc kinds), (6, iv (di (nextF l q) (kinds.take j) 0)), (13, (tSl 1 (gj .i64)).enc kinds), (14, iv kinds.length), (15, iv j)], bB 0 [cL l q.at_ q.op q.ts.length 1, cx q.ts]⟩) (fun j => kinds.length - j) 0
        (Nat.zero_le _) (wkP (tb := 1) rfl rfl (by decide) (by simp) rfl) ?_
      · intro j hj
        refine aa (ctx := [⟨_, p.spec⟩, ⟨_, CK⟩, ⟨_, Fs⟩, ⟨_, MB⟩]) 4000 ?_
        rcases Nat.lt_or_ge j kinds.length with hlt | hge
        · obtain ⟨k, hkj⟩ : ∃ k, kinds[j]? = some k := ⟨_, List.getElem?_eq_getElem hlt⟩
          have hltI : (j : Int) < kinds.length := by omega
          have ej : IntKind.i64.wrap ((j : Int) + 1) = ((j + 1 : Nat) : Int) := by rw [IntKind.wrap_i64]; omega
          have hk3 := hk k (List.mem_of_getElem? hkj)
          have hnx : s.at_ ≤ l.length := hok.le
          have hnm : l.length ≤ maxLen := by unfold maxLen; omega
          have hqn := hqk.le
          simp only [go_sem, cL, cx, hltI, hkj, fg, ff, GI, GH, n1, n2, n3, n4, ir, fT, xs0, cr, hqn, hnm, cj, bk, ej, hk3]
          have ef : di (nextF l q) (kinds.take (j + 1)) 0 = if nextF l q ≠ emp ∧ nextF l q = rN k then k else di (nextF l q) (kinds.take j) 0 := by
            rw [List.take_add_one, hkj]; exact vq
          refine ⟨fun h1 => ?_, fun h1 => ⟨fun h2 => ?_, fun h2 => ?_⟩⟩
          · rw [if_neg (fun h => h.1 h1)] at ef
            exact ⟨j + 1, hlt, by omega, wkP (q := q) (tb := 82) rfl rfl (by decide) (by simp) (by rw [ef]; rfl)⟩
          · rw [if_pos ⟨h1, h2⟩] at ef
            exact ⟨j + 1, hlt, by omega, wkP (q := q) (tb := 82) rfl rfl (by decide) (by simp) (by rw [ef]; rfl)⟩
          · rw [if_neg (fun h => h2 h.2)] at ef
            exact ⟨j + 1, hlt, by omega, wkP (q := q) (tb := 82) rfl rfl (by decide) (by simp) (by rw [ef]; rfl)⟩
        · obtain rfl : j = kinds.length := by omega
          rw [← hR, Fo hm]
          simp only [List.take_length]
          by_cases hf : di (nextF l q) kinds 0 = 0
          · simp only [go_sem, cL, cx, Int.lt_irrefl, hf]
            exact kq (s' := q) (tb := 1) rfl rfl rfl (by decide)
          · have hlt := tJ (uq hf)
            have e1 : IntKind.i64.wrap ((q.at_ : Int) + 1) = ((q.at_ + 1 : Nat) : Int) := by rw [IntKind.wrap_i64]; omega
            have hq1 : qP N () l ⟨q.at_ + 1, q.op, q.ts⟩ := ⟨⟨by show q.at_ + 1 ≤ _; omega, by have := hqk.rem; show _ ≤ q.at_ + 1 + N; omega, hqk.op0, hqk.op1, hqk.ts⟩, hlen⟩
            rcases hr2 : p.F l ⟨q.at_ + 1, q.op, q.ts⟩ with e | q'
            · simp only [go_sem, cL, cx, Int.lt_irrefl, hf, e1, n1, n2, n3, n4, p.run_eq, p.pan_eq, ir, fT, xs0, cr, hq1, hr2, bn, cw, cj, bk, pQ, pj]
            · have hg2 := p.goes l _ _ hq1.1 hr2
              simp only at hg2
              have h256 := hg2.2.2.2
              rcases hp : kE ⟨di (nextF l q) kinds 0, 0, ⟨#[]⟩⟩ q' with e | q''
              · have hp' : kE ⟨di (nextF l q) kinds 0, 0, emp⟩ q' = .error e := hp
                simp only [go_sem, cL, cx, Int.lt_irrefl, hf, e1, n1, n2, n3, n4, p.run_eq, p.pan_eq, ir, fT, xs0, cr, hq1, hr2, bn, cw, cj, bk, fZ, fY, de, h256, hp, hp', Except.map, pQ, pj]
              · have hp' : kE ⟨di (nextF l q) kinds 0, 0, emp⟩ q' = .ok q'' := hp
                simp only [go_sem, cL, cx, Int.lt_irrefl, hf, e1, n1, n2, n3, n4, p.run_eq, p.pan_eq, ir, fT, xs0, cr, hq1, hr2, bn, cw, cj, bk, fZ, fY, de, h256, hp, hp', Except.map]
                obtain ⟨e3, e4⟩ := rg hp
                subst e3
                refine ⟨(m - 1, { q' with ts := q'.ts ++ [⟨di (nextF l q) kinds 0, 0, ⟨#[]⟩⟩] }), ⟨?_, ⟨?_, ?_, ?_, ?_, ?_⟩, rfl⟩, ?_, wkP (tb := 274) rfl rfl (by decide) (by simp) rfl⟩
                · show l.length ≤ q'.at_ + (m - 1); omega
                · show q'.at_ ≤ l.length; exact hg2.2.1
                · have := hqk.rem; show l.length ≤ q'.at_ + N; omega
                · show 0 ≤ q'.op; rw [hg2.2.2.1]; exact hqk.op0
                · show q'.op ≤ 64; rw [hg2.2.2.1]; exact hqk.op1
                · show (q'.ts ++ [_]).length ≤ 256; rw [List.length_append]; exact e4
                · show m - 1 < m; omega

/-! row, with the block of its operators -/
def ko (ks : List Int) : Blk := ⟨true, 3, 1, (ks.map (gj .i64).enc).map cG⟩
def gv : List LV → Option Int
  | [.v (.int .i64 k)] => some k
  | _ => none
theorem K5 {rows : List (List LV)} {ks : List Int} (h : bL gv rows = some ks) : rows = (ks.map (gj .i64).enc).map cG := by
  rw [List.map_map]
  refine jS (d := gv) (e := cG ∘ (gj .i64).enc) (fun c x hc => ?_) h
  unfold gv at hc
  split at hc
  · injection hc with hc; subst hc; rfl
  · cases hc

theorem AJ (args : Array Value) (w : World) : (callFunc 252 args).run Tryz.prog w = .ok (.enter 252 args) w := by go_simp

def dx (N : Nat) (g : FuncId) (h : ah) : List AV → Option (Prop × List Nat × (List Int × List Tok × PS))
  | [A, F, .s (.l (.sl c 0 n))] => match fT h A, tFn.dec F, hget h c with
    | some (bs, l, s), some g', some ⟨true, T, 1, rows⟩ => match bL gv rows with
      | some ks => if g' = g ∧ T = 3 ∧ n = ks.length ∧ c ∉ bs then some (((∀ k ∈ ks, 3 ≤ k ∧ k ≤ 14) ∧ ks.length ≤ 10) ∧ qP N () l s, bs ++ [c], (ks, l, s)) else none
      | none => none
    | _, _, _ => none
  | _ => none

theorem ze {N : Nat} {g : FuncId} {h : ah} {zs : List AV} {q : Prop} {bs : List Nat} {ks : List Int} {l : List Tok} {s : PS} (hd : dx N g h zs = some (q, bs, (ks, l, s))) :
    ∃ b tb c F, zs = [pv b 0 0, F, .s (.l (.sl c 0 ks.length))] ∧ tFn.dec F = some g ∧ bs = [b, tb, c] ∧ b ≠ tb ∧ c ≠ b ∧ c ≠ tb ∧ hget h b = some (cL l s.at_ s.op s.ts.length tb) ∧ hget h tb = some (cx s.ts) ∧ hget h c = some (ko ks) ∧
      q = (((∀ k ∈ ks, 3 ≤ k ∧ k ≤ 14) ∧ ks.length ≤ 10) ∧ qP N () l s) := by
  unfold dx at hd
  split at hd
  case h_2 => cases hd
  rename_i A F c n
  split at hd
  case h_2 => cases hd
  rename_i bs' l' s' g' T rows h1 h2 h3
  split at hd
  case h_2 => cases hd
  rename_i ks' h4
  split at hd
  case isFalse => cases hd
  rename_i hc
  obtain ⟨rfl, rfl, rfl, hm⟩ := hc
  injection hd with hd
  injection hd with e1 hd
  injection hd with e2 hd
  injection hd with e3 hd
  injection hd with e4 e5
  subst e3
  subst e4
  subst e5
  obtain ⟨b, tb, rfl, rfl, hne, hb1, hb2⟩ := F7 h1
  simp only [List.mem_cons, List.not_mem_nil, or_false, not_or] at hm
  exact ⟨b, tb, c, F, rfl, h2, e2.symm, hne, hm.1, hm.2, hb1, hb2, by rw [h3, ko, K5 h4], e1.symm⟩

theorem B3 {N : Nat} {g : FuncId} {h h' : ah} (hs : ∀ b k, hget h b = some k → hget h' b = some k) {zs : List AV} {r : Prop × List Nat × (List Int × List Tok × PS)} (hd : dx N g h zs = some r) : dx N g h' zs = some r := by
  unfold dx at hd ⊢
  split at hd
  case h_2 => cases hd
  split at hd
  case h_2 => cases hd
  rename_i h1 h2 h3
  simp only [zd hs h1, h2, hs _ _ h3]
  exact hd

theorem PH {N : Nat} (p : iC N) (ks : List Int) (hk : (∀ k ∈ ks, 3 ≤ k ∧ k ≤ 14) ∧ ks.length ≤ 10) (l : List Tok) (s : PS) (h : qP N () l s) :
    SW Tryz.prog ⟨none, 1⟩ Tryz.f252.ntmps (Tryz.f252.body.getD .skip) ⟨3, aC 0 [pv 0 0 0, tFn.enc p.f, .s (.l (.sl 2 0 ks.length))], bB 0 [cL l s.at_ s.op s.ts.length 1, cx s.ts, ko ks]⟩ (dy Tryz.prog Tryz.f252.results.toList 1 (j8 l (ku (fB l (p.F l) ks s)))) := by
  have e : AV.toD (bB 0 [cL l s.at_ s.op s.ts.length 1, cx s.ts, ko ks]) 4 (.s (.l (.sl 2 0 ks.length))) = some (0 + ks.length ≤ (ko ks).els.length ∧ True, [2], (tSl 1 (gj .i64)).enc ks) := by
    have e2 : ez (ez (LV.toD (bB 0 [cL l s.at_ s.op s.ts.length 1, cx s.ts, ko ks]) 3)) (((ko ks).els.drop 0).take ks.length) = some (True, [], ks.map (gj .i64).enc) := by
      rw [List.drop_zero, List.take_of_length_le (by simp [ko])]
      exact im
    simp only [AV.toD, SV.toD, LV.toD]
    rw [show hget (bB 0 [cL l s.at_ s.op s.ts.length 1, cx s.ts, ko ks]) 2 = some (ko ks) from rfl]
    simp only [e2, show (ko ks).own = true from rfl, if_true]
    rfl
  refine SW.wk (SW.wk (Si p ks hk.1 hk.2 l s h) (wkP (tb := 1) ?_ ?_ (by decide) ?_ ?_)) (Wk.frz 2 e ⟨by simp [ko], trivial⟩)
  · rfl
  · rfl
  · show 2 ≤ 3; decide
  · rfl

/-- 'row' with a part to read -/
def rA {N : Nat} (p : iC N) : bi Tryz.prog 252 :=
  mkR 1 3 (by decide) _ _ _ Tryz.func252 rfl AJ (dx N p.f) (fun x => [pv 0 0 0, tFn.enc p.f, .s (.l (.sl 2 0 x.1.length))]) (fun x => [cL x.2.1 x.2.2.at_ x.2.2.op x.2.2.ts.length 1, cx x.2.2.ts, ko x.1])
    (fun x => j8 x.2.1 (ku (fB x.2.1 (p.F x.2.1) x.1 x.2.2))) (fun hs hd => B3 hs hd)
    (by
      intro h zs q bs x hd hq
      obtain ⟨ks, l, s⟩ := x
      obtain ⟨b, tb, c, F, rfl, hF, rfl, n1, n2, n3, h1, h2, h3, rfl⟩ := ze hd
      refine ⟨by rw [Tryz.ntmps252]; show 3 ≤ 47; decide, rfl, rfl, by simp [n1, Ne.symm n2, Ne.symm n3], fun d => ⟨?_, ?_⟩⟩
      · intro j b' k hj hk
        match j, hj, hk with
        | 0, hj, hk =>
          simp at hj hk
          subst hj
          subst hk
          exact ⟨rfl, by rw [h1]; rfl⟩
        | 1, hj, hk =>
          simp at hj hk
          subst hj
          subst hk
          refine ⟨rfl, ?_⟩
          rw [h2]
          simp only [cx, Blk.ren, jF]
        | 2, hj, hk =>
          simp at hj hk
          subst hj
          subst hk
          refine ⟨rfl, ?_⟩
          rw [h3]
          simp only [ko, Blk.ren, jF]
      · intro ρ al vals hA
        match vals, hA with
        | [v, v2, v3], ⟨a, a2, a3, _⟩ => exact ⟨a, (show v2 = _ from tFn.ok hF a2), a3, trivial⟩)
    (by
      intro h zs q bs x hd hq
      obtain ⟨ks, l, s⟩ := x
      obtain ⟨b, tb, c, F, rfl, hF, rfl, n1, n2, n3, h1, h2, h3, rfl⟩ := ze hd
      exact PH p ks hq.1 l s hq.2)
theorem jK {N : Nat} {p : iC N} {id : Nat} {h : ah} {args : List AV} : (rA p).run id h args = gu 1 (dx N p.f) (fun x => j8 x.2.1 (ku (fB x.2.1 (p.F x.2.1) x.1 x.2.2))) id h args := rfl
theorem jJ {N : Nat} {p : iC N} {id : Nat} {h : ah} {args : List AV} : (rA p).pan id h args = fX (dx N p.f) (fun x => j8 x.2.1 (ku (fB x.2.1 (p.F x.2.1) x.1 x.2.2))) h args := rfl

end Go.Proofs.YtnhbidpdadkcjaaGreatDoor.Ex

/-! ## N4 -/
namespace Go.Proofs.YtnhbidpdadkcjaaGreatDoor.Ex
open Go.RowKit



set_option maxHeartbeats 1000000 in
theorem E8 {N : Nat} (p : iC N) (hp : p.f = 298) (l : List Tok) (s : PS) (h : qP N () l s) :
    SW Tryz.prog ⟨none, 1⟩ Tryz.f297.ntmps (Tryz.f297.body.getD .skip) ⟨2, aC 0 [pv 0 0 0], bB 0 [cL l s.at_ s.op s.ts.length 1, cx s.ts]⟩ (dy Tryz.prog Tryz.f297.results.toList 1 (j8 l (ku (fB l (p.F l) [5, 6, 7] s)))) := by
  refine aa (ctx := [⟨_, rA p⟩]) 4000 ?_
  rw [Tryz.ntmps297, Tryz.results297]
  simp only [Tryz.f297, Option.getD_some, aC]
  have hq : qP N () l s := h
  rcases hr : fB l (p.F l) [5, 6, 7] s with e | s'
  · simp only [go_sem, cL, cx, jK, jJ, dx, fT, cr, gv, bL, hp, hq, hr, bn, cw, cj, bk]
    try (intro k hk; omega)
  · simp only [go_sem, cL, cx, jK, jJ, dx, fT, cr, gv, bL, hp, hq, hr, bn, cw, cj, bk]
    first
      | exact kq (s' := s') (tb := 34) rfl rfl rfl (by decide)
      | exact ⟨by intro k hk; omega, kq (s' := s') (tb := 34) rfl rfl rfl (by decide)⟩

theorem Ei (args : Array Value) (w : World) : (callFunc 297 args).run Tryz.prog w = .ok (.enter 297 args) w := by go_simp
def Mz {N : Nat} (p : iC N) (hp : p.f = 298) : iC N where
  f := 297
  F := fun l => fB l (p.F l) [5, 6, 7]
  spec := mkX _ _ _ Tryz.func297 rfl Ei xs0 (qP N) (fun _ l s => ku (fB l (p.F l) [5, 6, 7] s)) (by rw [Tryz.ntmps297]; decide) (fun _ l s h => E8 p hp l s h)
  run_eq := fun _ _ _ => rfl
  pan_eq := fun _ _ _ => rfl
  goes := fun l => fP (p.goes l)
  ne := by decide

set_option maxHeartbeats 1000000 in
theorem Sp {N : Nat} (p : iC N) (hp : p.f = 297) (l : List Tok) (s : PS) (h : qP N () l s) :
    SW Tryz.prog ⟨none, 1⟩ Tryz.f296.ntmps (Tryz.f296.body.getD .skip) ⟨2, aC 0 [pv 0 0 0], bB 0 [cL l s.at_ s.op s.ts.length 1, cx s.ts]⟩ (dy Tryz.prog Tryz.f296.results.toList 1 (j8 l (ku (fB l (p.F l) [8, 9] s)))) := by
  refine aa (ctx := [⟨_, rA p⟩]) 4000 ?_
  rw [Tryz.ntmps296, Tryz.results296]
  simp only [Tryz.f296, Option.getD_some, aC]
  have hq : qP N () l s := h
  rcases hr : fB l (p.F l) [8, 9] s with e | s'
  · simp only [go_sem, cL, cx, jK, jJ, dx, fT, cr, gv, bL, hp, hq, hr, bn, cw, cj, bk]
    try (intro k hk; omega)
  · simp only [go_sem, cL, cx, jK, jJ, dx, fT, cr, gv, bL, hp, hq, hr, bn, cw, cj, bk]
    first
      | exact kq (s' := s') (tb := 34) rfl rfl rfl (by decide)
      | exact ⟨by intro k hk; omega, kq (s' := s') (tb := 34) rfl rfl rfl (by decide)⟩

theorem Rf (args : Array Value) (w : World) : (callFunc 296 args).run Tryz.prog w = .ok (.enter 296 args) w := by go_simp
def sumP {N : Nat} (p : iC N) (hp : p.f = 297) : iC N where
  f := 296
  F := fun l => fB l (p.F l) [8, 9]
  spec := mkX _ _ _ Tryz.func296 rfl Rf xs0 (qP N) (fun _ l s => ku (fB l (p.F l) [8, 9] s)) (by rw [Tryz.ntmps296]; decide) (fun _ l s h => Sp p hp l s h)
  run_eq := fun _ _ _ => rfl
  pan_eq := fun _ _ _ => rfl
  goes := fun l => fP (p.goes l)
  ne := by decide

set_option maxHeartbeats 1000000 in
theorem MX {N : Nat} (p : iC N) (hp : p.f = 296) (l : List Tok) (s : PS) (h : qP N () l s) :
    SW Tryz.prog ⟨none, 1⟩ Tryz.f290.ntmps (Tryz.f290.body.getD .skip) ⟨2, aC 0 [pv 0 0 0], bB 0 [cL l s.at_ s.op s.ts.length 1, cx s.ts]⟩ (dy Tryz.prog Tryz.f290.results.toList 1 (j8 l (ku (fB l (p.F l) [10, 11] s)))) := by
  refine aa (ctx := [⟨_, rA p⟩]) 4000 ?_
  rw [Tryz.ntmps290, Tryz.results290]
  simp only [Tryz.f290, Option.getD_some, aC]
  have hq : qP N () l s := h
  rcases hr : fB l (p.F l) [10, 11] s with e | s'
  · simp only [go_sem, cL, cx, jK, jJ, dx, fT, cr, gv, bL, hp, hq, hr, bn, cw, cj, bk]
    try (intro k hk; omega)
  · simp only [go_sem, cL, cx, jK, jJ, dx, fT, cr, gv, bL, hp, hq, hr, bn, cw, cj, bk]
    first
      | exact kq (s' := s') (tb := 34) rfl rfl rfl (by decide)
      | exact ⟨by intro k hk; omega, kq (s' := s') (tb := 34) rfl rfl rfl (by decide)⟩

theorem KL (args : Array Value) (w : World) : (callFunc 290 args).run Tryz.prog w = .ok (.enter 290 args) w := by go_simp
def Sl {N : Nat} (p : iC N) (hp : p.f = 296) : iC N where
  f := 290
  F := fun l => fB l (p.F l) [10, 11]
  spec := mkX _ _ _ Tryz.func290 rfl KL xs0 (qP N) (fun _ l s => ku (fB l (p.F l) [10, 11] s)) (by rw [Tryz.ntmps290]; decide) (fun _ l s h => MX p hp l s h)
  run_eq := fun _ _ _ => rfl
  pan_eq := fun _ _ _ => rfl
  goes := fun l => fP (p.goes l)
  ne := by decide

set_option maxHeartbeats 1000000 in
theorem Oq {N : Nat} (p : iC N) (hp : p.f = 290) (l : List Tok) (s : PS) (h : qP N () l s) :
    SW Tryz.prog ⟨none, 1⟩ Tryz.f270.ntmps (Tryz.f270.body.getD .skip) ⟨2, aC 0 [pv 0 0 0], bB 0 [cL l s.at_ s.op s.ts.length 1, cx s.ts]⟩ (dy Tryz.prog Tryz.f270.results.toList 1 (j8 l (ku (fB l (p.F l) [12] s)))) := by
  refine aa (ctx := [⟨_, rA p⟩]) 4000 ?_
  rw [Tryz.ntmps270, Tryz.results270]
  simp only [Tryz.f270, Option.getD_some, aC]
  have hq : qP N () l s := h
  rcases hr : fB l (p.F l) [12] s with e | s'
  · simp only [go_sem, cL, cx, jK, jJ, dx, fT, cr, gv, bL, hp, hq, hr, bn, cw, cj, bk]
    try (intro k hk; omega)
  · simp only [go_sem, cL, cx, jK, jJ, dx, fT, cr, gv, bL, hp, hq, hr, bn, cw, cj, bk]
    first
      | exact kq (s' := s') (tb := 34) rfl rfl rfl (by decide)
      | exact ⟨by intro k hk; omega, kq (s' := s') (tb := 34) rfl rfl rfl (by decide)⟩

theorem OJ (args : Array Value) (w : World) : (callFunc 270 args).run Tryz.prog w = .ok (.enter 270 args) w := by go_simp
def Ti {N : Nat} (p : iC N) (hp : p.f = 290) : iC N where
  f := 270
  F := fun l => fB l (p.F l) [12]
  spec := mkX _ _ _ Tryz.func270 rfl OJ xs0 (qP N) (fun _ l s => ku (fB l (p.F l) [12] s)) (by rw [Tryz.ntmps270]; decide) (fun _ l s h => Oq p hp l s h)
  run_eq := fun _ _ _ => rfl
  pan_eq := fun _ _ _ => rfl
  goes := fun l => fP (p.goes l)
  ne := by decide

set_option maxHeartbeats 1000000 in
theorem RG {N : Nat} (p : iC N) (hp : p.f = 270) (l : List Tok) (s : PS) (h : qP N () l s) :
    SW Tryz.prog ⟨none, 1⟩ Tryz.f253.ntmps (Tryz.f253.body.getD .skip) ⟨2, aC 0 [pv 0 0 0], bB 0 [cL l s.at_ s.op s.ts.length 1, cx s.ts]⟩ (dy Tryz.prog Tryz.f253.results.toList 1 (j8 l (ku (fB l (p.F l) [13] s)))) := by
  refine aa (ctx := [⟨_, rA p⟩]) 4000 ?_
  rw [Tryz.ntmps253, Tryz.results253]
  simp only [Tryz.f253, Option.getD_some, aC]
  have hq : qP N () l s := h
  rcases hr : fB l (p.F l) [13] s with e | s'
  · simp only [go_sem, cL, cx, jK, jJ, dx, fT, cr, gv, bL, hp, hq, hr, bn, cw, cj, bk]
    try (intro k hk; omega)
  · simp only [go_sem, cL, cx, jK, jJ, dx, fT, cr, gv, bL, hp, hq, hr, bn, cw, cj, bk]
    first
      | exact kq (s' := s') (tb := 34) rfl rfl rfl (by decide)
      | exact ⟨by intro k hk; omega, kq (s' := s') (tb := 34) rfl rfl rfl (by decide)⟩

theorem Rb (args : Array Value) (w : World) : (callFunc 253 args).run Tryz.prog w = .ok (.enter 253 args) w := by go_simp
def oddP {N : Nat} (p : iC N) (hp : p.f = 270) : iC N where
  f := 253
  F := fun l => fB l (p.F l) [13]
  spec := mkX _ _ _ Tryz.func253 rfl Rb xs0 (qP N) (fun _ l s => ku (fB l (p.F l) [13] s)) (by rw [Tryz.ntmps253]; decide) (fun _ l s h => RG p hp l s h)
  run_eq := fun _ _ _ => rfl
  pan_eq := fun _ _ _ => rfl
  goes := fun l => fP (p.goes l)
  ne := by decide

set_option maxHeartbeats 1000000 in
theorem HG {N : Nat} (p : iC N) (hp : p.f = 253) (l : List Tok) (s : PS) (h : qP N () l s) :
    SW Tryz.prog ⟨none, 1⟩ Tryz.f236.ntmps (Tryz.f236.body.getD .skip) ⟨2, aC 0 [pv 0 0 0], bB 0 [cL l s.at_ s.op s.ts.length 1, cx s.ts]⟩ (dy Tryz.prog Tryz.f236.results.toList 1 (j8 l (ku (fB l (p.F l) [14] s)))) := by
  refine aa (ctx := [⟨_, rA p⟩]) 4000 ?_
  rw [Tryz.ntmps236, Tryz.results236]
  simp only [Tryz.f236, Option.getD_some, aC]
  have hq : qP N () l s := h
  rcases hr : fB l (p.F l) [14] s with e | s'
  · simp only [go_sem, cL, cx, jK, jJ, dx, fT, cr, gv, bL, hp, hq, hr, bn, cw, cj, bk]
    try (intro k hk; omega)
  · simp only [go_sem, cL, cx, jK, jJ, dx, fT, cr, gv, bL, hp, hq, hr, bn, cw, cj, bk]
    first
      | exact kq (s' := s') (tb := 34) rfl rfl rfl (by decide)
      | exact ⟨by intro k hk; omega, kq (s' := s') (tb := 34) rfl rfl rfl (by decide)⟩

theorem HH (args : Array Value) (w : World) : (callFunc 236 args).run Tryz.prog w = .ok (.enter 236 args) w := by go_simp
def OG {N : Nat} (p : iC N) (hp : p.f = 253) : iC N where
  f := 236
  F := fun l => fB l (p.F l) [14]
  spec := mkX _ _ _ Tryz.func236 rfl HH xs0 (qP N) (fun _ l s => ku (fB l (p.F l) [14] s)) (by rw [Tryz.ntmps236]; decide) (fun _ l s h => HG p hp l s h)
  run_eq := fun _ _ _ => rfl
  pan_eq := fun _ _ _ => rfl
  goes := fun l => fP (p.goes l)
  ne := by decide

end Go.Proofs.YtnhbidpdadkcjaaGreatDoor.Ex

/-! ## N5 -/
namespace Go.Proofs.YtnhbidpdadkcjaaGreatDoor.Ex
open Go.RowKit

def SG (h : ah) : Nat := match hget h 0 with
  | some ⟨_, _, _, [[_, _, _, .sl tb _ _]]⟩ => tb
  | _ => 0
theorem Cw {l : List Tok} {s' : PS} {r : AV} {st : St} (hr : r.plain = true) (h1 : hget st.h 0 = some (cL l s'.at_ s'.op s'.ts.length (SG st.h))) (h2 : hget st.h (SG st.h) = some (cx s'.ts)) (hn : SG st.h ≠ 0) : oH 1 st (j8 l (.ok (r, s'))) (some r) := kq hr h1 h2 hn

/-- an operand, where there is a token -/
def cB (rp rq : PS → PR) (l : List Tok) (t : Tok) (s : PS) : PR :=
  if t.kind = 2 then kE ⟨1, wrap64 t.n, emp⟩ { s with at_ := s.at_ + 1 }
  else if t.kind = 1 then kE ⟨2, 0, t.text⟩ { s with at_ := s.at_ + 1 }
  else if t.kind = 4 ∧ t.text = ⟨#[40]⟩ then
    match eZ rp s with
    | .error e => .error e
    | .ok s' => if nextF l s' = ⟨#[41]⟩ then .ok { s' with at_ := s'.at_ + 1 } else .error 90
  else if t.kind = 4 ∧ (t.text = ⟨#[45]⟩ ∨ t.text = ⟨#[126]⟩) then
    match eZ rq s with
    | .error e => .error e
    | .ok s' => kE ⟨if t.text = ⟨#[126]⟩ then 4 else 3, 0, emp⟩ s'
  else .error 90

theorem yS {l : List Tok} {N : Nat} {s : PS} {t : Tok} (h : l[s.at_]? = some t) : cv l (N + 1) s = cB (jH l (cv l N)) (cv l N) l t s := by
  rw [cv, h]; rfl

set_option maxHeartbeats 1000000 in
theorem tN {N : Nat} (l : List Tok) (s : PS) (h : qP N () l s) (hl : l[s.at_]? = none) :
    SW Tryz.prog ⟨none, 1⟩ Tryz.f298.ntmps (Tryz.f298.body.getD .skip) ⟨2, aC 0 [pv 0 0 0], bB 0 [cL l s.at_ s.op s.ts.length 1, cx s.ts]⟩ (dy Tryz.prog Tryz.f298.results.toList 1 (j8 l (ku (.error 90)))) := by
  refine aa (ctx := [⟨_, zg⟩]) 4000 ?_
  rw [Tryz.ntmps298, Tryz.results298]
  simp only [Tryz.f298, Option.getD_some, aC]
  have hge : ¬ (s.at_ : Int) < l.length := by have := List.getElem?_eq_none_iff.1 hl; omega
  have hge2 : (l.length : Int) ≤ s.at_ := by omega
  simp only [go_sem, cL, cx]
  refine bI (ctx := []) mixed [] (by kernel_rfl) ?_
  simp only [go_sem, hge, hge2, List.length_map, dO, dN, bn, bk]

set_option maxRecDepth 4000 in
set_option maxHeartbeats 4000000 in
theorem Bb {N : Nat} (p q : iC N) (hp : p.f = 236) (hq : q.f = 298) (l : List Tok) (s : PS) (h : qP (N + 1) () l s) (t : Tok) (hl : l[s.at_]? = some t) :
    SW Tryz.prog ⟨none, 1⟩ Tryz.f298.ntmps (Tryz.f298.body.getD .skip) ⟨2, aC 0 [pv 0 0 0], bB 0 [cL l s.at_ s.op s.ts.length 1, cx s.ts]⟩ (dy Tryz.prog Tryz.f298.results.toList 1 (j8 l (ku (cB (p.F l) (q.F l) l t s)))) := by
  refine aa (ctx := [⟨_, Ba p q⟩, ⟨_, CK⟩, ⟨_, MB⟩, ⟨_, zg⟩]) 4000 ?_
  rw [Tryz.ntmps298, Tryz.results298]
  simp only [Tryz.f298, Option.getD_some, aC]
  obtain ⟨hok, hlen⟩ := h
  have hltN := (List.getElem?_eq_some_iff.1 hl).1
  have hlt : (s.at_ : Int) < l.length := by omega
  have hge : ¬ (l.length : Int) ≤ s.at_ := by omega
  have e1 := Bx hok.le hlen
  simp only [go_sem, cL, cx]
  refine bI (ctx := []) mixed [] (by kernel_rfl) ?_
  simp only [go_sem, hlt, hge, List.length_map]
  refine bI (ctx := []) mixed [11] (by kernel_rfl) ?_
  have h256 := hok.ts
  by_cases c2 : t.kind = 2
  · have eG : cB (p.F l) (q.F l) l t s = kE ⟨1, IntKind.i64.wrap t.n, ⟨#[]⟩⟩ { s with at_ := s.at_ + 1 } := by rw [cB, if_pos c2, IntKind.wrap_i64, Go.RowKit.wrap64]; rfl
    rw [eG]
    rcases hp2 : kE ⟨1, IntKind.i64.wrap t.n, ⟨#[]⟩⟩ { s with at_ := s.at_ + 1 } with e | s'
    · simp only [go_sem, cL, cx, hlt, hge, e1, List.length_map, hl, lM, dI, dH, fg, ff, fZ, fY, dO, dN, ir, fT, xs0, qb, de, cr, bn, cw, cj, bk, Except.map, hp, hq, h256, c2, hp2]
    · simp only [go_sem, cL, cx, hlt, hge, e1, List.length_map, hl, lM, dI, dH, fg, ff, fZ, fY, dO, dN, ir, fT, xs0, qb, de, cr, bn, cw, cj, bk, Except.map, hp, hq, h256, c2, hp2]
      exact Cw (s' := s') rfl rfl rfl (Nat.succ_ne_zero _)
  have c2b : (t.kind == 2) = false := by simp [c2]
  by_cases c1 : t.kind = 1
  · have eG : cB (p.F l) (q.F l) l t s = kE ⟨2, 0, t.text⟩ { s with at_ := s.at_ + 1 } := by rw [cB, if_neg c2, if_pos c1]
    rw [eG]
    rcases hp2 : kE ⟨2, 0, t.text⟩ { s with at_ := s.at_ + 1 } with e | s'
    · simp only [go_sem, cL, cx, hlt, hge, e1, List.length_map, hl, lM, dI, dH, fg, ff, fZ, fY, dO, dN, ir, fT, xs0, qb, de, cr, bn, cw, cj, bk, Except.map, hp, hq, h256, c1, hp2]
    · simp only [go_sem, cL, cx, hlt, hge, e1, List.length_map, hl, lM, dI, dH, fg, ff, fZ, fY, dO, dN, ir, fT, xs0, qb, de, cr, bn, cw, cj, bk, Except.map, hp, hq, h256, c1, hp2]
      exact Cw (s' := s') rfl rfl rfl (Nat.succ_ne_zero _)
  have hopq : ((236 : Nat) = 298) = False := by simp
  by_cases c4 : t.kind = 4
  · by_cases ct : t.text = ⟨#[40]⟩
    · rcases ho : eZ (p.F l) s with e | s'
      · have eG : cB (p.F l) (q.F l) l t s = .error e := by rw [cB, if_neg c2, if_neg c1, if_pos ⟨c4, ct⟩, ho]
        rw [eG]
        simp only [go_sem, cL, cx, hlt, hge, e1, List.length_map, hl, lM, dI, dH, fg, ff, fZ, fY, dO, dN, ir, fT, xs0, qb, de, cr, bn, cw, cj, bk, Except.map, hp, hq, h256, c4, ct, ho, hok, hltN, hlen]
      · have hg := kt (p.goes l) hok hltN ho
        have hsl := hg.2.1
        have hlm : l.length ≤ maxLen := by unfold maxLen; omega
        by_cases hn : nextF l s' = ⟨#[41]⟩
        · have eG : cB (p.F l) (q.F l) l t s = .ok { s' with at_ := s'.at_ + 1 } := by rw [cB, if_neg c2, if_neg c1, if_pos ⟨c4, ct⟩, ho]; simp only [hn, if_true]
          rw [eG]
          have e5 := Bx hsl hlen
          simp only [go_sem, cL, cx, hlt, hge, e1, List.length_map, hl, lM, dI, dH, fg, ff, fZ, fY, dO, dN, ir, fT, xs0, qb, de, cr, bn, cw, cj, bk, Except.map, hp, hq, h256, c4, ct, ho, hok, hltN, hlen, hsl, hlm, hn, e5]
          exact Cw (s' := { s' with at_ := s'.at_ + 1 }) rfl rfl rfl (Nat.succ_ne_zero _)
        · have eG : cB (p.F l) (q.F l) l t s = .error 90 := by rw [cB, if_neg c2, if_neg c1, if_pos ⟨c4, ct⟩, ho]; simp only [hn, if_false]
          rw [eG]
          simp only [go_sem, cL, cx, hlt, hge, e1, List.length_map, hl, lM, dI, dH, fg, ff, fZ, fY, dO, dN, ir, fT, xs0, qb, de, cr, bn, cw, cj, bk, Except.map, hp, hq, h256, c4, ct, ho, hok, hltN, hlen, hsl, hlm, hn]
    · by_cases cm : t.text = ⟨#[45]⟩
      · have ne1 : ((⟨#[45]⟩ : ByteArray) = ⟨#[40]⟩) = False := by simp
        have ne2 : ((⟨#[45]⟩ : ByteArray) = ⟨#[45]⟩) = True := by simp
        have ne3 : ((⟨#[45]⟩ : ByteArray) = ⟨#[126]⟩) = False := by simp
        rcases ho : eZ (q.F l) s with e | s'
        · have eG : cB (p.F l) (q.F l) l t s = .error e := by rw [cB, if_neg c2, if_neg c1, if_neg (fun h => ct h.2), if_pos ⟨c4, .inl cm⟩, ho]
          rw [eG]
          simp only [go_sem, cL, cx, hlt, hge, e1, List.length_map, hl, lM, dI, dH, fg, ff, fZ, fY, dO, dN, ir, fT, xs0, qb, de, cr, bn, cw, cj, bk, Except.map, hp, hq, h256, c4, cm, ct, ne1, ne2, ne3, ho, hok, hltN, hlen]
        · have hg := kt (q.goes l) hok hltN ho
          have hs256 := hg.2.2.2
          rcases hp2 : kE ⟨3, 0, ⟨#[]⟩⟩ s' with e | s''
          · have eG : cB (p.F l) (q.F l) l t s = .error e := by
              rw [cB, if_neg c2, if_neg c1, if_neg (fun h => ct h.2), if_pos ⟨c4, .inl cm⟩, ho, cm]
              simp only [ne3, if_true, if_false]
              exact hp2
            rw [eG]
            simp only [go_sem, cL, cx, hlt, hge, e1, List.length_map, hl, lM, dI, dH, fg, ff, fZ, fY, dO, dN, ir, fT, xs0, qb, de, cr, bn, cw, cj, bk, Except.map, hp, hq, h256, c4, cm, ct, ne1, ne2, ne3, ho, hok, hltN, hlen, hs256, hp2]
          · have eG : cB (p.F l) (q.F l) l t s = .ok s'' := by
              rw [cB, if_neg c2, if_neg c1, if_neg (fun h => ct h.2), if_pos ⟨c4, .inl cm⟩, ho, cm]
              simp only [ne3, if_true, if_false]
              exact hp2
            rw [eG]
            simp only [go_sem, cL, cx, hlt, hge, e1, List.length_map, hl, lM, dI, dH, fg, ff, fZ, fY, dO, dN, ir, fT, xs0, qb, de, cr, bn, cw, cj, bk, Except.map, hp, hq, h256, c4, cm, ct, ne1, ne2, ne3, ho, hok, hltN, hlen, hs256, hp2]
            exact Cw (s' := s'') rfl rfl rfl (Nat.succ_ne_zero _)
      · by_cases cn : t.text = ⟨#[126]⟩
        · have ne1 : ((⟨#[126]⟩ : ByteArray) = ⟨#[40]⟩) = False := by simp
          have ne2 : ((⟨#[126]⟩ : ByteArray) = ⟨#[45]⟩) = False := by simp
          have ne3 : ((⟨#[126]⟩ : ByteArray) = ⟨#[126]⟩) = True := by simp
          rcases ho : eZ (q.F l) s with e | s'
          · have eG : cB (p.F l) (q.F l) l t s = .error e := by rw [cB, if_neg c2, if_neg c1, if_neg (fun h => ct h.2), if_pos ⟨c4, .inr cn⟩, ho]
            rw [eG]
            simp only [go_sem, cL, cx, hlt, hge, e1, List.length_map, hl, lM, dI, dH, fg, ff, fZ, fY, dO, dN, ir, fT, xs0, qb, de, cr, bn, cw, cj, bk, Except.map, hp, hq, h256, c4, cn, ct, ne1, ne2, ne3, ho, hok, hltN, hlen]
          · have hg := kt (q.goes l) hok hltN ho
            have hs256 := hg.2.2.2
            rcases hp2 : kE ⟨4, 0, ⟨#[]⟩⟩ s' with e | s''
            · have eG : cB (p.F l) (q.F l) l t s = .error e := by
                rw [cB, if_neg c2, if_neg c1, if_neg (fun h => ct h.2), if_pos ⟨c4, .inr cn⟩, ho, cn]
                simp only [ne3, if_true, if_false]
                exact hp2
              rw [eG]
              simp only [go_sem, cL, cx, hlt, hge, e1, List.length_map, hl, lM, dI, dH, fg, ff, fZ, fY, dO, dN, ir, fT, xs0, qb, de, cr, bn, cw, cj, bk, Except.map, hp, hq, h256, c4, cn, ct, ne1, ne2, ne3, ho, hok, hltN, hlen, hs256, hp2]
            · have eG : cB (p.F l) (q.F l) l t s = .ok s'' := by
                rw [cB, if_neg c2, if_neg c1, if_neg (fun h => ct h.2), if_pos ⟨c4, .inr cn⟩, ho, cn]
                simp only [ne3, if_true, if_false]
                exact hp2
              rw [eG]
              simp only [go_sem, cL, cx, hlt, hge, e1, List.length_map, hl, lM, dI, dH, fg, ff, fZ, fY, dO, dN, ir, fT, xs0, qb, de, cr, bn, cw, cj, bk, Except.map, hp, hq, h256, c4, cn, ct, ne1, ne2, ne3, ho, hok, hltN, hlen, hs256, hp2]
              exact Cw (s' := s'') rfl rfl rfl (Nat.succ_ne_zero _)
        · have eG : cB (p.F l) (q.F l) l t s = .error 90 := by rw [cB, if_neg c2, if_neg c1, if_neg (fun h => ct h.2), if_neg (fun h => h.2.elim cm cn)]
          rw [eG]
          simp only [go_sem, cL, cx, hlt, hge, e1, List.length_map, hl, lM, dI, dH, fg, ff, fZ, fY, dO, dN, ir, fT, xs0, qb, de, cr, bn, cw, cj, bk, Except.map, hp, hq, h256, c4, ct, cm, cn]
  · have eG : cB (p.F l) (q.F l) l t s = .error 90 := by rw [cB, if_neg c2, if_neg c1, if_neg (fun h => c4 h.1), if_neg (fun h => c4 h.1)]
    rw [eG]
    have c4b : (t.kind == 4) = false := by simp [c4]
    have c1b : (t.kind == 1) = false := by simp [c1]
    simp only [go_sem, cL, cx, hlt, hge, e1, List.length_map, hl, lM, dI, dH, fg, ff, fZ, fY, dO, dN, ir, fT, xs0, qb, de, cr, bn, cw, cj, bk, Except.map, hp, hq, h256, c1, c2, c4]

theorem w7 (args : Array Value) (w : World) : (callFunc 298 args).run Tryz.prog w = .ok (.enter 298 args) w := by go_simp

def AZ {N : Nat} (q : iC N) (hq : q.f = 298) : iC N :=
  OG (oddP (Ti (Sl (sumP (Mz q hq) rfl) rfl) rfl) rfl) rfl
theorem zB {N : Nat} {q : iC N} {hq : q.f = 298} : (AZ q hq).F = fun l => jH l (q.F l) := rfl

theorem rL {l : List Tok} {N : Nat} {s : PS} (h : l[s.at_]? = none) : cv l N s = .error 90 := by
  cases N with
  | zero => rw [cv]
  | succ N => rw [cv, h]

/-- 'operand', where no token is left -/
def Ml : iC 0 where
  f := 298
  F := fun l => cv l 0
  spec := mkX _ _ _ Tryz.func298 rfl w7 xs0 (qP 0) (fun _ l s => ku (cv l 0 s)) (by rw [Tryz.ntmps298]; decide)
    (fun _ l s h => by
      have hl : l[s.at_]? = none := List.getElem?_eq_none_iff.2 (by have := h.1.rem; omega)
      rw [rL hl]
      exact tN l s h hl)
  run_eq := fun _ _ _ => rfl
  pan_eq := fun _ _ _ => rfl
  goes := fun l => jA 0
  ne := by decide

def Mm {N : Nat} (q : iC N) (hq : q.f = 298) (hF : q.F = fun l => cv l N) : iC (N + 1) where
  f := 298
  F := fun l => cv l (N + 1)
  spec := mkX _ _ _ Tryz.func298 rfl w7 xs0 (qP (N + 1)) (fun _ l s => ku (cv l (N + 1) s)) (by rw [Tryz.ntmps298]; decide)
    (fun _ l s h => by
      rcases hl : l[s.at_]? with _ | t
      · rw [rL hl]
        exact tN l s h hl
      · rw [yS hl]
        have := Bb (AZ q hq) q rfl hq l s h t hl
        rw [zB, hF] at this
        exact this)
  run_eq := fun _ _ _ => rfl
  pan_eq := fun _ _ _ => rfl
  goes := fun l => jA (N + 1)
  ne := by decide

def oL : (N : Nat) → { q : iC N // q.f = 298 ∧ q.F = fun l => cv l N }
  | 0 => ⟨Ml, rfl, rfl⟩
  | N + 1 => ⟨Mm (oL N).1 (oL N).2.1 (oL N).2.2, rfl, rfl⟩

/-- the parser's whole walk -/
def qC (N : Nat) : iC N := AZ (oL N).1 (oL N).2.1
theorem CX (N : Nat) : (qC N).f = 236 := rfl
theorem CW (N : Nat) : (qC N).F = fun l => jH l (cv l N) := by
  rw [qC, zB, (oL N).2.2]

end Go.Proofs.YtnhbidpdadkcjaaGreatDoor.Ex

/-! ## N6 -/
namespace Go.Proofs.YtnhbidpdadkcjaaGreatDoor.Ex
open Go.RowKit

/-- what Parse answers -/
def outParse (l : List Tok) : PO :=
  match parseF l with
  | .ok s => .ret (.tup [.l (.d (.sd 3 (s.ts.map kz.enc))), .l (.v (.int .i64 s.at_)), .l (.v (.int .i64 0))])
  | .error e => .ret (.tup [.l (.v (.slice none 0 0)), .l (.v (.int .i64 0)), .l (.v (.int .i64 e))])

theorem HM (args : Array Value) (w : World) : (callFunc 235 args).run Tryz.prog w = .ok (.enter 235 args) w := by go_simp
theorem w8 (args : Array Value) (w : World) : (callFunc 196 args).run Tryz.prog w = .ok (.enter 196 args) w := by go_simp

def c3K (a : LV) (b c : Int) : List Blk := [⟨true, 208, 1, [[a]]⟩, ⟨true, 3, 1, [[.v (.int .i64 b)]]⟩, ⟨true, 27, 1, [[.v (.int .i64 c)]]⟩]

/-- the three results' cells, and what hangs on them -/
structure JQ (s : St) (a : LV) (b c : Int) : Prop where
  h0 : hget s.h 0 = some ⟨true, 208, 1, [[a]]⟩
  h1 : hget s.h 1 = some ⟨true, 3, 1, [[.v (.int .i64 b)]]⟩
  h2 : hget s.h 2 = some ⟨true, 27, 1, [[.v (.int .i64 c)]]⟩

def QH (s : St) : Prop := dk s.t 2 = pv 0 0 0 ∧ dk s.t 3 = pv 1 0 0 ∧ dk s.t 4 = pv 2 0 0

set_option maxRecDepth 4000 in
set_option maxHeartbeats 4000000 in
theorem EW (l : List Tok) (hl : l.length ≤ 1000000) : JR Tryz.prog 196 Tryz.f196 ⟨0, aC 0 [(tSl 4 lN).enc l], []⟩ (outParse l) := by
  intro B w ρ al vals R hpl hds H hret _
  refine qi (K := 3) (js := [0, 1, 2]) (cells := [(2, 0), (3, 1), (4, 2)]) (s1 := ⟨3, [(0, (tSl 4 lN).enc l), (2, pv 0 0 0), (3, pv 1 0 0), (4, pv 2 0 0)], bB 0 (c3K (.v (.slice none 0 0)) 0 0)⟩)
    (post := fun s => QH s ∧ ∃ s', parseF l = .ok s' ∧ ∃ tb, JQ s (.sl tb 0 s'.ts.length) s'.at_ 0 ∧ 3 ≤ tb ∧ hget s.h tb = some (cx s'.ts))
    (pp := fun x s => QH s ∧ ∃ e, parseF l = .error e ∧ x = fa e ∧ JQ s (.v (.slice none 0 0)) 0 0)
    (post2 := fun s => yW s.h (outParse l) (nT Tryz.prog Tryz.f196.results.toList ⟨s.nx, [(2, pv 0 0 0), (3, pv 1 0 0), (4, pv 2 0 0)], s.h⟩))
    Tryz.func196 rfl Tryz.func235 rfl rfl rfl rfl rfl (by decide) (by decide) (by decide) (by decide) hpl hds H ?_
    (tB rfl rfl rfl rfl rfl rfl (by decide) HM rfl) ?_ ?_ ?_ ?_ ?_ ?_ ?_
  · refine aa (ctx := []) 4000 ?_
    rw [Tryz.ntmps196]
    simp only [go_sem]
    exact Wk.renL [0, 16, 32] (by simp) (by simp) (by decide) rfl rfl
  · intro j hj
    match j, hj with
    | 0, _ => exact ⟨_, rfl⟩
    | 1, _ => exact ⟨_, rfl⟩
    | 2, _ => exact ⟨_, rfl⟩
  · refine iU (aa (ctx := []) 4000 ?_)
    rw [Tryz.ntmps196]
    simp only [go_sem]
    refine SW.wk (s' := ⟨68, [(5, pv 35 0 0), (2, pv 0 0 0), (3, pv 1 0 0), (4, pv 2 0 0)], (35, some (cL l 0 0 0 67)) :: (67, some (cx [])) :: bB 0 (c3K (.v (.slice none 0 0)) 0 0)⟩) ?_
      ((Wk.nilC 35 3 242 3 rfl rfl rfl).trans (Wk.sub (Nat.le_refl _) rfl rfl))
    · refine aa (ctx := [⟨_, (qC l.length).spec⟩]) 4000 ?_
      have hq : qP l.length () l ⟨0, 0, []⟩ := ⟨⟨Nat.zero_le _, by simp, by decide, by decide, by simp⟩, hl⟩
      rcases hr : parseF l with e | s'
      · have hr2 : jH l (cv l l.length) ⟨0, 0, []⟩ = .error e := hr
        simp only [go_sem, cL, cx, c3K, CX, CW, (qC l.length).run_eq, (qC l.length).pan_eq, ir, fT, xs0, cr, bL, hr2, hq, bn, cw, cj, bk]
        exact ⟨⟨rfl, rfl, rfl⟩, e, rfl, rfl, ⟨rfl, rfl, rfl⟩⟩
      · have hr2 : jH l (cv l l.length) ⟨0, 0, []⟩ = .ok s' := hr
        simp only [go_sem, cL, cx, c3K, CX, CW, (qC l.length).run_eq, (qC l.length).pan_eq, ir, fT, xs0, cr, bL, hr2, hq, bn, cw, cj, bk]
        refine du (ctx := []) mixed ⟨[], [(8, [0]), (9, [1]), (10, [2])], [(4, [0]), (5, [0]), (6, [0]), (7, [0])]⟩ (by kernel_rfl) ?_
        simp only [go_sem, cL, cx, c3K]
        exact ⟨⟨rfl, rfl, rfl⟩, s', rfl, 84, ⟨rfl, rfl, rfl⟩, by decide, rfl⟩
  · rintro s ⟨⟨e1, e2, e3⟩, _⟩ p hp
    simp only [List.mem_cons, List.not_mem_nil, or_false] at hp
    rcases hp with rfl | rfl | rfl
    · exact e1
    · exact e2
    · exact e3
  · rintro x s ⟨⟨e1, e2, e3⟩, _⟩ p hp
    simp only [List.mem_cons, List.not_mem_nil, or_false] at hp
    rcases hp with rfl | rfl | rfl
    · exact e1
    · exact e2
    · exact e3
  · rintro s ⟨-, s', hr, tb, hc, h3, ht⟩
    refine aa (ctx := []) 4000 ?_
    rw [Tryz.ntmps235, Tryz.results196]
    have hb := @pI Tryz.prog 20 .nilIface (.tmp 6) xw
    have hm : ez (ez (LV.toD s.h 3)) ((cx s'.ts).els.take s'.ts.length) = some (True, [], s'.ts.map kz.enc) := by
      rw [List.take_of_length_le (by simp [cx])]
      exact im
    have ho : (cx s'.ts).own = true := rfl
    have hz : (cx s'.ts).sz = 3 := rfl
    have hlen : s'.ts.length ≤ (cx s'.ts).els.length := by simp [cx]
    simp only [go_sem, pvs, ↓hb, hc.h0, hc.h1, hc.h2, outParse, hr, ht, AV.toD, SV.toD, LV.toD, ho, hz, hm, hlen]
  · rintro x s ⟨-, e, hr, rfl, hc⟩
    have hwk : Wk ⟨none, 3⟩ ⟨s.nx, (6, .s (.l (.v (fa e)))) :: aC 0 (pvs [0, 1, 2]), s.h⟩ ⟨3, (6, .s (.l (.v (fa e)))) :: aC 0 (pvs [0, 1, 2]), bB 0 (c3K (.v (.slice none 0 0)) 0 0)⟩ := by
      refine Wk.renL [0, 1, 2] (by decide) (Nat.le_refl 3) (by decide) rfl ?_
      simp only [c3K, bB, List.map_cons, List.map_nil, List.getD_eq_getElem?_getD, List.getElem?_cons_zero, List.getElem?_cons_succ, Option.getD_some, hc.h0, hc.h1, hc.h2]
      rfl
    refine SW.wk ?_ hwk
    refine aa (ctx := []) 4000 ?_
    rw [Tryz.ntmps235, Tryz.results196]
    have hb : ∀ u v, _ := fun u v => @ni Tryz.prog 20 u v .nilIface (.tmp 6) xw
    have hs : Do (.agg #[.int .i64 e]) = some (.agg [.v (.int .i64 e)]) := rfl
    simp only [go_sem, pvs, ↓hb, hs, fa, qS, c3K]
    refine du (ctx := []) mixed ⟨[], [(2, [0]), (3, [1]), (4, [2])], [(0, [0, 1]), (1, [0, 1])]⟩ (by kernel_rfl) ?_
    simp only [go_sem, outParse, hr]
  · intro s ρ al a w1 h2 H2
    exact hret _ ρ al a w1 h2 H2

end Go.Proofs.YtnhbidpdadkcjaaGreatDoor.Ex

/-! ## Parse, Eval -/
namespace Go.Proofs.YtnhbidpdadkcjaaGreatDoor.Ex
open Go.RowKit
set_option maxRecDepth 100000

theorem OK (args : Array Value) (w : World) : (callFunc 197 args).run Tryz.prog w = .ok (.enter 197 args) w := by go_simp
/-- terms as the elder contracts see them -/
theorem M9 {M : Mem} {w : World} (hM : ∀ b o y, M b o = some y → w.cell? ⟨b, o, none⟩ = some y) {ts : List Term} {v : Value} (h : ARep ρ0 (al0 M) ((tSl 3 kz).enc ts) v) : ∃ A cap, v = .slice A ts.length cap ∧ Terms w w.heap.size A ts := by
  have e : ts.map kz.enc = (ts.map Term.cells).map fun e => e.map .v := by
    rw [List.map_map]; exact List.map_congr_left fun t _ => rfl
  have hfl : (ts.map Term.cells).flatten = ts.flatMap Term.cells := by rw [List.flatMap_def]
  have hl : ∀ ts : List Term, (ts.flatMap Term.cells).length = ts.length * 3 := by
    intro ts
    induction ts with
    | nil => rfl
    | cons t r ih => rw [List.flatMap_cons, List.length_append, ih, List.length_cons]; show 3 + _ = _; omega
  have h' : DRep M (.sd 3 ((ts.map Term.cells).map fun e => e.map .v)) v := by rw [← e]; exact h
  obtain ⟨A, cap, rfl, hs⟩ := TY hM (by rw [hfl, hl, List.length_map]) (fun hne => by
    intro h0
    rw [hfl] at h0
    have := hl ts
    rw [h0] at this
    have : ts = [] := List.eq_nil_of_length_eq_zero (by simp at this; omega)
    rw [this] at hne
    exact hne rfl) h'
  rw [hfl, List.length_map] at hs
  exact ⟨A, cap, by rw [List.length_map], hs⟩

def parseS : bi Tryz.prog 196 := Ry _ _ w8 (tSl 4 lN) (fun l => l.length ≤ 1000000) outParse (by rw [Tryz.ntmps196]; decide) fun l hl => EW l hl
theorem parse_run {id : Nat} {h : ah} {args : List AV} : parseS.run id h args = bT (ba (tSl 4 lN) (fun l => l.length ≤ 1000000)) outParse h args := rfl
theorem parse_pan {h : ah} {id : Nat} {args : List AV} : parseS.pan id h args = bU (ba (tSl 4 lN) (fun l => l.length ≤ 1000000)) outParse h args := rfl

def outEval (ts : List Term) : AV := .tup [.agg [.v (.int .i64 (evalAll ts).1.add), .v (.string (evalAll ts).1.plus), .v (.string (evalAll ts).1.minus)], .l (.v (.int .i64 (evalAll ts).2))]
def evalS : bi Tryz.prog 197 := CD _ OK (tSl 3 kz) (fun ts => ts.length ≤ 1099511627776 ∧ ∀ t ∈ ts, t.sym.size ≤ 140737488355328) outEval (fun _ => rfl) fun ts hs M w v hM hv => by
  obtain ⟨A, cap, rfl, hT⟩ := M9 hM hv
  refine (KV A cap ts w hT hs.1 hs.2).mono fun e w' h => ?_
  obtain ⟨r, x, h1, h2, h3⟩ := h
  refine ⟨⟨_, h2, [.agg #[.int .i64 r.add, .string r.plus, .string r.minus], .int .i64 x], rfl, ⟨[.int .i64 r.add, .string r.plus, .string r.minus], rfl, ?_⟩, ?_, trivial⟩, h3⟩
  · rw [h1]; exact ⟨rfl, rfl, rfl, rfl, rfl, rfl, trivial⟩
  · rw [h1]; rfl
theorem eval_run {id : Nat} {h : ah} {args : List AV} : evalS.run id h args = bT (ba (tSl 3 kz) (fun ts => ts.length ≤ 1099511627776 ∧ ∀ t ∈ ts, t.sym.size ≤ 140737488355328)) (fun ts => .ret (outEval ts)) h args := rfl
theorem eval_pan {h : ah} {id : Nat} {args : List AV} : evalS.pan id h args = bU (ba (tSl 3 kz) (fun ts => ts.length ≤ 1099511627776 ∧ ∀ t ∈ ts, t.sym.size ≤ 140737488355328)) (fun ts => .ret (outEval ts)) h args := rfl


end Go.Proofs.YtnhbidpdadkcjaaGreatDoor.Ex
