/- The value logic, part 10: what is known of a function, out of what its body does; lists of structs. No program in sight. -/
import Derived.Test.YthhlghoeapjagaaV9
import Derived.Test.YthhlghoeapjagaaV12
set_option linter.unusedVariables false
set_option linter.unusedSimpArgs false
namespace Go.Proofs.Ythhlghoeapjagaa
open Go.RowKit

def retQ (P : Program) (rs : List ResultVar) (r : AV) (e : Exit) (s : St) : Prop := (e = .normal ∨ e = .ret) ∧ aRet P rs s = some r

section
variable {P : Program}

def runFlat {X : Type} (dec : Heap → List AV → Option (Prop × X)) (res : X → AV) (ar : Nat) (h : Heap) (args : List AV) : Option Res :=
  if args.length = ar then match dec h args with
    | some (ob, x) => some ⟨ob, res x, []⟩
    | none => none
    else none

/-- A function whose result is plain and that changes nothing that was there. -/
def mkFlat {X : Type} (f : FuncId) (fn : Func) (c : Code) (hf : P.funcs[f]? = some fn) (hb : fn.body = some c)
    (hen : ∀ (args : Array Value) (w : World), (callFunc f args).run P w = .ok (.enter f args) w)
    (dec : Heap → List AV → Option (Prop × X)) (res : X → AV)
    (hmono : ∀ {h h' : Heap} {args : List AV} {x : Prop × X}, (∀ b k, hget h b = some k → hget h' b = some k) → dec h args = some x → dec h' args = some x)
    (hflat : ∀ x, (res x).flat = true)
    (ar : Nat) (har : ar ≤ fn.ntmps)
    (body : ∀ {h : Heap} {args : List AV} {ob : Prop} {x : X}, dec h args = some (ob, x) → ob → ∃ args' hs, Views h 0 args args' hs ∧ SW P fn.ntmps c ⟨ar, zipT 0 args', hs⟩ (retQ P fn.results.toList (res x))) : Spec P f where
  enter := hen
  run := fun _ h args => runFlat dec res ar h args
  mono := by
    intro id h h' args R hs hr
    unfold runFlat at hr ⊢
    split at hr
    case isFalse => cases hr
    rename_i hl
    rw [if_pos hl]
    cases hd : dec h args with
    | none => rw [hd] at hr; cases hr
    | some x => rw [hd] at hr; rw [hmono hs hd]; exact hr
  sound := by
    intro id h args R hr hob B w0 ρ al w vals H hid hA
    unfold runFlat at hr
    split at hr
    case isFalse => cases hr
    rename_i har'
    cases hd : dec h args with
    | none => rw [hd] at hr; cases hr
    | some x =>
      obtain ⟨ob, x⟩ := x
      rw [hd] at hr
      injection hr with hr
      subst hr
      obtain ⟨args', hs, hv, hsw⟩ := body hd hob
      have hl := hA.length
      obtain ⟨ρv, alv, H0⟩ := enter_rep (n := fn.ntmps) H hv hA (by rw [hl, har']; exact har)
      rw [har'] at H0
      refine calls_of_wp hf hb (wp_mono (hsw _ _ _ _ _ _ H0) ?_)
      rintro e a' w' ⟨ρ', al', s', H', he, hret⟩
      obtain ⟨v, h1, h2⟩ := aRet_sound (fn := fn) H' hret
      have hbp : bodyPost P fn (fun e w' => ∃ v ρ', e = .returned v ∧ Ext ρ ρ' al (alW al id) ∧ ARep ρ' (alW al id) (res x) v ∧ WRep B w0 ρ' (alW al id) ([] ++ h) w') .ret a' w' := by
        refine ⟨H'.defers, v, h1, v, ρ, rfl, (Ext.refl _ _).lift alW_inl, h2.flat (hflat x), ?_⟩
        refine (H.step (.refl _ _) (H.below.trans (H'.w.below.mono H.size)) fun b k hk hc => ?_).lift alW_inl
        exact H'.w.below.block _ (H.lt hk hc)
      rcases he with rfl | rfl
      · exact hbp
      · exact hbp

def flatArgs : List AV → Option (List Value)
  | [] => some []
  | x :: r => match flatOf x, flatArgs r with
    | some v, some l => some (v :: l)
    | _, _ => none

theorem flatArgs_rep {ρ : Nat → Loc} {al : Nat → Prop} : ∀ {xs : List AV} {vs ys : List Value}, flatArgs xs = some vs → AsRep ρ al xs ys → ys = vs
  | [], vs, [], h, _ => by injection h
  | [], _, _ :: _, _, h => h.elim
  | _ :: _, _, [], _, h => h.elim
  | x :: xs, vs, y :: ys, h, ⟨a, b⟩ => by
    simp only [flatArgs] at h
    split at h
    case h_2 => cases h
    rename_i v l h1 h2
    injection h with h
    subst h
    rw [flatOf_rep h1 a, flatArgs_rep h2 b]

def runPlain (d : List Value → Option (Prop × AV)) (ar : Nat) (args : List AV) : Option Res :=
  if args.length = ar then match flatArgs args with
    | some vs => match d vs with
      | some (ob, r) => some ⟨ob, r, []⟩
      | none => none
    | none => none
    else none

/-- A function of plain values with a contract of the elder kind. -/
def mkOld (f : FuncId) (hen : ∀ (args : Array Value) (w : World), (callFunc f args).run P w = .ok (.enter f args) w)
    (d : List Value → Option (Prop × AV)) (ar : Nat) (hd : ∀ {vs : List Value} {ob : Prop} {r : AV}, d vs = some (ob, r) → ob → ∀ w, Calls P f vs.toArray w fun e w' => ∃ v, e = .returned v ∧ (∀ ρ al, ARep ρ al r v) ∧ Below w.heap.size w w') : Spec P f where
  enter := hen
  run := fun _ _ args => runPlain d ar args
  mono := fun _ h => h
  sound := by
    intro id h args R hr hob B w0 ρ al w vals H hid hA
    unfold runPlain at hr
    split at hr
    case isFalse => cases hr
    split at hr
    case h_2 => cases hr
    rename_i vs hvs
    split at hr
    case h_2 => cases hr
    rename_i ob r hdv
    injection hr with hr
    subst hr
    rw [flatArgs_rep hvs hA]
    refine (hd hdv hob w).mono ?_
    rintro e w' ⟨v, rfl, hv, hb⟩
    refine ⟨v, ρ, rfl, (Ext.refl _ _).lift alW_inl, hv _ _, ?_⟩
    exact (H.step (.refl _ _) (H.below.trans (hb.mono H.size)) fun b k hk hc => hb.block _ (H.lt hk hc)).lift alW_inl

theorem flatArgs_views {h : Heap} : ∀ {xs ys : List AV} {vs : List Value} (j : Nat), flatArgs xs = some vs → flatArgs ys = some vs → Views h j xs ys []
  | [], ys, vs, j, h1, h2 => by
    injection h1 with h1
    subst h1
    cases ys with
    | nil => exact .nil j
    | cons y ys => simp only [flatArgs] at h2; split at h2 <;> cases h2
  | x :: xs, ys, vs, j, h1, h2 => by
    simp only [flatArgs] at h1
    split at h1
    case h_2 => cases h1
    rename_i v l hx hxs
    injection h1 with h1
    subst h1
    cases ys with
    | nil => cases h2
    | cons y ys =>
      simp only [flatArgs] at h2
      split at h2
      case h_2 => cases h2
      rename_i v' l' hy hys
      injection h2 with h2
      injection h2 with e1 e2
      subst e1
      subst e2
      exact .cons (.plain _ _ _ hx hy) (flatArgs_views (j + 1) hxs hys)

/-- A function of plain values. -/
def mkPlain (f : FuncId) (fn : Func) (c : Code) (hf : P.funcs[f]? = some fn) (hb : fn.body = some c)
    (hen : ∀ (args : Array Value) (w : World), (callFunc f args).run P w = .ok (.enter f args) w)
    (d : List Value → Option (Prop × AV)) (ar : Nat) (har : ar ≤ fn.ntmps)
    (body : ∀ {vs : List Value} {ob : Prop} {r : AV}, d vs = some (ob, r) → ob → r.flat = true ∧ ∃ as, flatArgs as = some vs ∧ SW P fn.ntmps c ⟨ar, zipT 0 as, []⟩ (retQ P fn.results.toList r)) : Spec P f where
  enter := hen
  run := fun _ _ args => runPlain d ar args
  mono := fun _ h => h
  sound := by
    intro id h args R hr hob B w0 ρ al w vals H hid hA
    unfold runPlain at hr
    split at hr
    case isFalse => cases hr
    rename_i har'
    split at hr
    case h_2 => cases hr
    rename_i vs hvs
    split at hr
    case h_2 => cases hr
    rename_i ob r hdv
    injection hr with hr
    subst hr
    obtain ⟨hflat, as, has, hsw⟩ := body hdv hob
    have hl := hA.length
    obtain ⟨ρv, alv, H0⟩ := enter_rep (n := fn.ntmps) H (flatArgs_views 0 hvs has) hA (by rw [hl, har']; exact har)
    rw [har'] at H0
    refine calls_of_wp hf hb (wp_mono (hsw _ _ _ _ _ _ H0) ?_)
    rintro e a' w' ⟨ρ', al', s', H', he, hret⟩
    obtain ⟨v, h1, h2⟩ := aRet_sound (fn := fn) H' hret
    have hbp : bodyPost P fn (fun e w' => ∃ v ρ', e = .returned v ∧ Ext ρ ρ' al (alW al id) ∧ ARep ρ' (alW al id) r v ∧ WRep B w0 ρ' (alW al id) ([] ++ h) w') .ret a' w' := by
      refine ⟨H'.defers, v, h1, v, ρ, rfl, (Ext.refl _ _).lift alW_inl, h2.flat hflat, ?_⟩
      refine (H.step (.refl _ _) (H.below.trans (H'.w.below.mono H.size)) fun b k hk hc => ?_).lift alW_inl
      exact H'.w.below.block _ (H.lt hk hc)
    rcases he with rfl | rfl
    · exact hbp
    · exact hbp

/-- the elements that a slice has -/
def slEls (sz : Nat) (h : Heap) : AV → Option (Prop × List (List LV))
  | .s (.l (.sl b i n)) => match hget h b with
    | some k => if k.sz = sz then some (i + n ≤ k.els.length, (k.els.drop i).take n) else none
    | none => none
  | .s (.l (.v (.slice none 0 0))) => some (True, [])
  | _ => none

theorem slEls_mono {sz : Nat} {h h' : Heap} {A : AV} {x : Prop × List (List LV)} (hs : ∀ b k, hget h b = some k → hget h' b = some k) (hx : slEls sz h A = some x) : slEls sz h' A = some x := by
  unfold slEls at hx ⊢
  split at hx
  · split at hx
    case h_2 => cases hx
    rename_i k hk
    rw [hs _ _ hk]
    exact hx
  · exact hx
  · cases hx

theorem slEls_view {sz : Nat} {h : Heap} {A : AV} {ob : Prop} {els : List (List LV)} (hx : slEls sz h A = some (ob, els)) (hob : ob) (hf : ∀ e ∈ els, e.all (·.flat) = true) (T : TypeId) (j : Nat) :
    View1 h j A (.s (.l (.sl j 0 els.length))) [(j, some ⟨false, T, sz, els⟩)] := by
  unfold slEls at hx
  split at hx
  · rename_i b i n
    split at hx
    case h_2 => cases hx
    rename_i k hk
    split at hx
    case isFalse => cases hx
    rename_i hs
    injection hx with hx
    injection hx with h1 h2
    subst h1
    have hn : els.length = n := by rw [← h2]; simp; omega
    have := View1.slice (h := h) (j := j) T sz b i k els hk hs (by rw [hn, h2]) (by rw [hn]; exact hob) hf
    rw [hn] at this ⊢
    exact this
  · injection hx with hx
    injection hx with h1 h2
    subst h2
    exact View1.nil T sz
  · cases hx

/-- slices of things of one kind: their type, how many cells each has, how it is read off them, and back; under which condition -/
structure DecSl (α : Type) where
  T : TypeId
  sz : Nat
  dec : List LV → Option α
  enc : α → List LV
  inv : ∀ c x, dec c = some x → c = enc x
  flat : ∀ x, (enc x).all (·.flat) = true
  ob : List α → Prop

def dec1 {α : Type} (D : DecSl α) (h : Heap) : List AV → Option (Prop × List α)
  | [A] => match slEls D.sz h A with
    | some (ob, els) => match decAll D.dec els with
      | some l => some (ob ∧ D.ob l, l)
      | none => none
    | none => none
  | _ => none

theorem dec1_mono {α : Type} {D : DecSl α} {h h' : Heap} {args : List AV} {x : Prop × List α} (hs : ∀ b k, hget h b = some k → hget h' b = some k) (hx : dec1 D h args = some x) : dec1 D h' args = some x := by
  unfold dec1 at hx ⊢
  split at hx
  · split at hx
    case h_2 => cases hx
    rename_i ob els he
    simp only [slEls_mono hs he]
    exact hx
  · cases hx

theorem dec1_view {α : Type} (D : DecSl α) {h : Heap} {args : List AV} {ob : Prop} {l : List α} (hx : dec1 D h args = some (ob, l)) (hob : ob) :
    Views h 0 args [.s (.l (.sl 0 0 l.length))] [(0, some ⟨false, D.T, D.sz, l.map D.enc⟩)] ∧ D.ob l := by
  unfold dec1 at hx
  split at hx
  case h_2 => cases hx
  rename_i A
  split at hx
  case h_2 => cases hx
  rename_i ob1 els he
  split at hx
  case h_2 => cases hx
  rename_i l' hl
  injection hx with hx
  injection hx with h1 h2
  subst h1
  subst h2
  have e := decAll_inv D.inv hl
  have := slEls_view he hob.1 (by
    intro c hc
    rw [e] at hc
    obtain ⟨x, _, rfl⟩ := List.mem_map.1 hc
    exact D.flat x) D.T 0
  rw [e, List.length_map] at this
  have hv := Views.cons this (.nil 1)
  simp only [List.append_nil] at hv
  exact ⟨hv, hob.2⟩

theorem take_map_len {α β : Type} (f : α → β) (l : List α) : (l.map f).take l.length = l.map f := by rw [List.take_of_length_le (by simp)]

end

end Go.Proofs.Ythhlghoeapjagaa
