/- The value logic: slices that are handed over, results that are new slices. -/
import Derived.Test.YtpjlafmhoifkmaaGreatJ3
import Derived.Test.YtpjlafmhoifkmaaGreatJq
set_option linter.unusedVariables false
set_option linter.unusedSimpArgs false
namespace Go.Proofs.YtpjlafmhoifkmaaGreat
open Go.RowKit
set_option maxRecDepth 100000

/-- what the rows of a slice are -/
structure RowL (α : Type) where
  T : TypeId
  sz : Nat
  enc : α → List LV
  dec : List LV → Option α
  inv : ∀ {c : List LV} {x : α}, dec c = some x → c = enc x
  back : ∀ x, dec (enc x) = some x
  ren : ∀ (x : α) (g : Nat → Nat), (enc x).map (fun y => LV.ren g y) = enc x
def RowL.blk {α : Type} (R : RowL α) (l : List α) : Blk := ⟨true, R.T, R.sz, l.map R.enc⟩
theorem RowL.blk_ren {α : Type} (R : RowL α) (l : List α) (g : Nat → Nat) : (R.blk l).ren g = R.blk l := by
  unfold RowL.blk Blk.ren
  have h : ∀ x : α, (R.enc x).map (LV.ren g) = R.enc x := fun x => R.ren x g
  simp [Function.comp_def, h]
theorem RowL.all_map {α : Type} (R : RowL α) : ∀ l : List α, decAll R.dec (l.map R.enc) = some l
  | [] => rfl
  | x :: l => by simp [decAll, R.back x, R.all_map l]
theorem RowL.all_inv {α : Type} (R : RowL α) {rows : List (List LV)} {l : List α} (h : decAll R.dec rows = some l) : rows = l.map R.enc := decAll_inv (d := R.dec) (e := R.enc) (fun _ _ hc => R.inv hc) h

/-- one slice that is handed over -/
def decSl {α : Type} (R : RowL α) (h : Heap) : AV → Option (Nat × List α)
  | .s (.l (.sl b 0 m)) => match hget h b with
    | some ⟨true, T, sz, rows⟩ => if T = R.T ∧ sz = R.sz then (match decAll R.dec rows with
      | some l => if m = l.length then some (b, l) else none
      | none => none) else none
    | _ => none
  | _ => none
theorem decSl_ok {α : Type} {R : RowL α} {h : Heap} {A : AV} {b : Nat} {l : List α} (hd : decSl R h A = some (b, l)) : A = .s (.l (.sl b 0 l.length)) ∧ hget h b = some (R.blk l) := by
  unfold decSl at hd
  split at hd
  case h_2 => cases hd
  rename_i b' m
  split at hd
  case h_2 => cases hd
  rename_i T sz rows hb
  split at hd
  case isFalse => cases hd
  rename_i hc
  obtain ⟨rfl, rfl⟩ := hc
  split at hd
  case h_2 => cases hd
  rename_i l' hl
  split at hd
  case isFalse => cases hd
  rename_i hm
  subst hm
  simp only [Option.some.injEq, Prod.mk.injEq] at hd
  obtain ⟨rfl, rfl⟩ := hd
  exact ⟨rfl, by rw [hb, RowL.blk, R.all_inv hl]⟩
theorem decSl_mono {α : Type} {R : RowL α} {h h' : Heap} (hs : ∀ b k, hget h b = some k → hget h' b = some k) {A : AV} {r : Nat × List α} (hd : decSl R h A = some r) : decSl R h' A = some r := by
  unfold decSl at hd ⊢
  split at hd
  case h_2 => cases hd
  split at hd
  case h_2 => cases hd
  rename_i hb
  simp only [hs _ _ hb]
  exact hd

/-- a slice handed over, and plain values behind it -/
def decQ1 {α X : Type} (R : RowL α) (D : Xw X) (q : List α → X → Prop) (h : Heap) : List AV → Option (Prop × List Nat × (List α × X))
  | A :: zs => match decSl R h A, D.dec zs with
    | some (b, l), some x => some (q l x, [b], (l, x))
    | _, _ => none
  | [] => none
def outQ1 {α β X : Type} (R' : RowL β) (F : List α → X → List β) (y : List α × X) : RO := .ret (.s (.l (.sl 0 0 (F y.1 y.2).length))) [] [R'.blk (F y.1 y.2)]
def mkQ1 {α β X : Type} (f : FuncId) (fn : Func) (c : Code) (hf : Tryz.prog.funcs[f]? = some fn) (hb : fn.body = some c)
    (hen : ∀ (args : Array Value) (w : World), (callFunc f args).run Tryz.prog w = .ok (.enter f args) w) (R : RowL α) (R' : RowL β) (D : Xw X) (q : List α → X → Prop) (F : List α → X → List β) (hn : D.len + 1 ≤ fn.ntmps)
    (body : ∀ l x, q l x → SW Tryz.prog ⟨none, 0⟩ fn.ntmps c ⟨1, zipT 0 (.s (.l (.sl 0 0 l.length)) :: D.enc x), zipH 0 [R.blk l]⟩ (outRQ Tryz.prog fn.results.toList 0 (outQ1 R' F (l, x)))) : Spec Tryz.prog f :=
  mkQ 0 1 (by decide) f fn c hf hb hen (decQ1 R D q) (fun y => .s (.l (.sl 0 0 y.1.length)) :: D.enc y.2) (fun y => [R.blk y.1]) (outQ1 R' F) (by omega)
    (by
      intro h h' args r hs hd
      unfold decQ1 at hd ⊢
      split at hd
      · split at hd
        · rename_i h1 h2
          rw [decSl_mono hs h1, h2]
          exact hd
        · cases hd
      · cases hd)
    (by
      intro h zs q' bs y hd hq
      unfold decQ1 at hd
      split at hd
      case h_2 => cases hd
      rename_i A zs'
      split at hd
      case h_2 => cases hd
      rename_i b l x h1 h2
      simp only [Option.some.injEq, Prod.mk.injEq] at hd
      obtain ⟨rfl, rfl, rfl⟩ := hd
      obtain ⟨rfl, hb1⟩ := decSl_ok h1
      refine ⟨by rw [List.length_cons, D.enc_len]; exact hn, rfl, rfl, by simp, fun d => ⟨?_, ?_⟩⟩
      · intro j b' k hj hk
        match j, hj, hk with
        | 0, hj, hk =>
          simp at hj hk
          subst hj
          subst hk
          exact ⟨rfl, by rw [hb1, R.blk_ren]⟩
      · intro ρ al vals hA
        match vals, hA with
        | v :: vs, ⟨a, r⟩ => exact ⟨a, D.ok (al := al) h2 r⟩)
    (by
      intro h zs q' bs y hd hq
      unfold decQ1 at hd
      split at hd
      case h_2 => cases hd
      split at hd
      case h_2 => cases hd
      simp only [Option.some.injEq, Prod.mk.injEq] at hd
      obtain ⟨rfl, rfl, rfl⟩ := hd
      exact body _ _ hq)

/-- two slices handed over -/
def decQ2 {α β : Type} (R : RowL α) (R2 : RowL β) (q : List α → List β → Prop) (h : Heap) : List AV → Option (Prop × List Nat × (List α × List β))
  | [A, B] => match decSl R h A, decSl R2 h B with
    | some (b, l), some (c, m) => if b ≠ c then some (q l m, [b, c], (l, m)) else none
    | _, _ => none
  | _ => none
def mkQ2 {α β γ : Type} (f : FuncId) (fn : Func) (c : Code) (hf : Tryz.prog.funcs[f]? = some fn) (hb : fn.body = some c)
    (hen : ∀ (args : Array Value) (w : World), (callFunc f args).run Tryz.prog w = .ok (.enter f args) w) (R : RowL α) (R2 : RowL β) (R' : RowL γ) (q : List α → List β → Prop) (F : List α → List β → List γ) (hn : 2 ≤ fn.ntmps)
    (body : ∀ l m, q l m → SW Tryz.prog ⟨none, 0⟩ fn.ntmps c ⟨2, zipT 0 [.s (.l (.sl 0 0 l.length)), .s (.l (.sl 1 0 m.length))], zipH 0 [R.blk l, R2.blk m]⟩ (outRQ Tryz.prog fn.results.toList 0 (outQ1 R' F (l, m)))) : Spec Tryz.prog f :=
  mkQ 0 2 (by decide) f fn c hf hb hen (decQ2 R R2 q) (fun y => [.s (.l (.sl 0 0 y.1.length)), .s (.l (.sl 1 0 y.2.length))]) (fun y => [R.blk y.1, R2.blk y.2]) (outQ1 R' F) (by omega)
    (by
      intro h h' args r hs hd
      unfold decQ2 at hd ⊢
      split at hd
      · split at hd
        · rename_i h1 h2
          rw [decSl_mono hs h1, decSl_mono hs h2]
          exact hd
        · cases hd
      · cases hd)
    (by
      intro h zs q' bs y hd hq
      unfold decQ2 at hd
      split at hd
      case h_2 => cases hd
      rename_i A B
      split at hd
      case h_2 => cases hd
      rename_i b l c' m h1 h2
      split at hd
      case isFalse => cases hd
      rename_i hne
      simp only [Option.some.injEq, Prod.mk.injEq] at hd
      obtain ⟨rfl, rfl, rfl⟩ := hd
      obtain ⟨rfl, hb1⟩ := decSl_ok h1
      obtain ⟨rfl, hb2⟩ := decSl_ok h2
      refine ⟨hn, rfl, rfl, by simpa using hne, fun d => ⟨?_, ?_⟩⟩
      · intro j b' k hj hk
        match j, hj, hk with
        | 0, hj, hk =>
          simp at hj hk
          subst hj
          subst hk
          exact ⟨rfl, by rw [hb1, R.blk_ren]⟩
        | 1, hj, hk =>
          simp at hj hk
          subst hj
          subst hk
          exact ⟨rfl, by rw [hb2, R2.blk_ren]⟩
      · intro ρ al vals hA
        match vals, hA with
        | [v, w], ⟨a, b, _⟩ => exact ⟨a, b, trivial⟩)
    (by
      intro h zs q' bs y hd hq
      unfold decQ2 at hd
      split at hd
      case h_2 => cases hd
      split at hd
      case h_2 => cases hd
      split at hd
      case isFalse => cases hd
      simp only [Option.some.injEq, Prod.mk.injEq] at hd
      obtain ⟨rfl, rfl, rfl⟩ := hd
      exact body _ _ hq)

/-! ### Limits, and numbers, as rows -/
def decIntL : List LV → Option Int
  | [.v (.int .i64 z)] => some z
  | _ => none
def intRow : RowL Int where
  T := 3
  sz := 1
  enc := fun z => [.v (.int .i64 z)]
  dec := decIntL
  inv := by
    intro c x h
    unfold decIntL at h
    split at h
    · injection h with h; subst h; rfl
    · cases h
  back := fun _ => rfl
  ren := fun _ _ => rfl
def limL (f : Lim) : List LV := [.v (.int .i64 f.1), .v (.int .i64 f.2.1), .v (.int .i64 f.2.2)]
def decLimL : List LV → Option Lim
  | [.v (.int .i64 f), .v (.int .i64 a), .v (.int .i64 b)] => some (f, a, b)
  | _ => none
def limRow : RowL Lim where
  T := 75
  sz := 3
  enc := limL
  dec := decLimL
  inv := by
    intro c x h
    unfold decLimL at h
    split at h
    · injection h with h; subst h; rfl
    · cases h
  back := fun _ => rfl
  ren := fun _ _ => rfl

end Go.Proofs.YtpjlafmhoifkmaaGreat
