/- The value logic with lasting memory, part 17: functions with a contract of the elder kind. No program in sight. -/
import Derived.Test.YtcdbldakjepjiaaDoorU16
import Derived.Test.YtcdbldakjepjiaaDoorLib
set_option linter.unusedVariables false
set_option linter.unusedSimpArgs false
namespace Go.Proofs.YtcdbldakjepjiaaDoor
open Go.RowKit

section
variable {P : Program}

abbrev ρ0 : Nat → Loc := fun _ => ⟨0, 0, 0, 0, false⟩
abbrev al0 (M : Mem) : Al := ⟨fun _ => False, M⟩

theorem keeps_below {w w' : World} (h : Below w.heap.size w w') : Keeps (fun k => k < w.heap.size) w w' :=
  ⟨h.os, h.tape, h.output, h.size, fun k hk => h.block k hk, fun k o hk _ => by rw [h.block k (Array.getElem?_eq_some_iff.1 hk).1]; exact hk⟩

/-- what a function of deep values with a plain result does, told by its calls -/
def mkC {X : Type} (f : FuncId) (hen : ∀ (args : Array Value) (w : World), (callFunc f args).run P w = .ok (.enter f args) w) (dec : List AV → Option (Prop × X)) (enc : X → List AV) (out : X → AV) (hpl : ∀ x, (out x).plain = true)
    (hdec : ∀ {as : List AV} {q : Prop} {x : X}, dec as = some (q, x) → q → ∀ (ρ : Nat → Loc) (al : Al) (vals : List Value), AsRep ρ al as vals → AsRep ρ al (enc x) vals)
    (calls : ∀ {as : List AV} {q : Prop} {x : X}, dec as = some (q, x) → q → ∀ (M : Mem) (w : World) (vals : List Value), Gok M → (∀ b o y, M b o = some y → w.cell? ⟨b, o, none⟩ = some y) → AsRep ρ0 (al0 M) (enc x) vals →
      Calls P f vals.toArray w fun e w' => (∃ v, e = .returned v ∧ ARep ρ0 (al0 M) (out x) v) ∧ Below w.heap.size w w') : Spec P f where
  enter := hen
  run := fun _ h args => runP dec (fun x => .ret (out x)) h args
  pan := fun _ h args => panP dec (fun x => .ret (out x)) h args
  mono := by
    intro id h h' args R hs hr
    unfold runP at hr ⊢
    split at hr
    case h_2 => cases hr
    rename_i p u as hm
    rw [mapT_mono (fun z t hz => AV.toD_mono hs 4 hz) hm]
    exact hr
  sound := by
    intro id h args R hr hob B w0 ρ al w vals H hid hA
    unfold runP at hr
    split at hr
    case h_2 => cases hr
    rename_i p u as hm
    split at hr
    case h_2 => cases hr
    rename_i q x hd
    simp only at hr
    injection hr with hr
    subst hr
    obtain ⟨hp, hq⟩ := hob
    have hA1 := hdec hd hq ρ0 (al0 (frzM al.M ρ h u w)) vals (views_rep H rfl hm hp (fun _ hc => hc) hA)
    refine (calls hd hq (frzM al.M ρ h u w) w vals (gokP H u) (fun b o y hy => frzM_mem H hy) hA1).mono ?_
    rintro e w' ⟨⟨v, rfl, hv⟩, hb⟩
    refine ⟨v, ρ, al, rfl, .refl _ _, fun b hb => .inl hb, hv.plain (hpl x), ?_⟩
    unfold hides
    rw [if_pos (hpl x)]
    exact H.step (.refl _ _) (H.below.trans ((keeps_below hb).mono fun k hk => H.size k hk)) (fun b k hk hc => hb.block _ (H.lt hk hc)) (fun b ⟨_, _, hb'⟩ => hb.block _ (H.memLt hb'))
  psound := by
    intro id h args ob y E hr
    unfold panP at hr
    split at hr
    case h_2 => cases hr
    split at hr
    case h_2 => cases hr
    cases hr

def mk0C (f : FuncId) (hen : ∀ (args : Array Value) (w : World), (callFunc f args).run P w = .ok (.enter f args) w) (out : AV) (hpl : out.plain = true)
    (calls : ∀ w, Calls P f #[] w fun e w' => (∃ v, e = .returned v ∧ ∀ M, ARep ρ0 (al0 M) out v) ∧ Below w.heap.size w w') : Spec P f :=
  mkC f hen (args0 True) (fun _ => []) (fun _ => out) (fun _ => hpl)
    (by
      intro as q x h _ ρ al vals hA
      unfold args0 at h
      split at h
      · exact hA
      · cases h)
    (by
      intro as q x _ _ M w vals _ _ hA
      match vals, hA with
      | [], _ => exact (calls w).mono fun e w' ⟨⟨v, h1, h2⟩, h3⟩ => ⟨⟨v, h1, h2 M⟩, h3⟩)

def mk1C {α : Type} (f : FuncId) (hen : ∀ (args : Array Value) (w : World), (callFunc f args).run P w = .ok (.enter f args) w) (T : Ty α) (q : α → Prop) (out : α → AV) (hpl : ∀ x, (out x).plain = true)
    (calls : ∀ x, q x → ∀ (M : Mem) (w : World) (v : Value), (∀ b o y, M b o = some y → w.cell? ⟨b, o, none⟩ = some y) → ARep ρ0 (al0 M) (T.enc x) v → Calls P f #[v] w fun e w' => (∃ v, e = .returned v ∧ ARep ρ0 (al0 M) (out x) v) ∧ Below w.heap.size w w') : Spec P f :=
  mkC f hen (args1 T q) (fun x => [T.enc x]) out hpl
    (by
      intro as p x h _ ρ al vals hA
      unfold args1 at h
      split at h
      · split at h
        · rename_i hx
          injection h with h
          injection h with h1 h2
          subst h2
          match vals, hA with
          | [v], ⟨a, _⟩ => exact ⟨T.ok hx a, trivial⟩
        · cases h
      · cases h)
    (by
      intro as p x h hp M w vals hG hM hA
      unfold args1 at h
      split at h
      · split at h
        · injection h with h
          injection h with h1 h2
          subst h1
          subst h2
          match vals, hA with
          | [v], ⟨a, _⟩ => exact calls _ hp M w v hM a
        · cases h
      · cases h)

/-- the same, where what the package's variables hold counts -/
def mk1G {α : Type} (f : FuncId) (hen : ∀ (args : Array Value) (w : World), (callFunc f args).run P w = .ok (.enter f args) w) (T : Ty α) (q : α → Prop) (out : α → AV) (hpl : ∀ x, (out x).plain = true)
    (calls : ∀ x, q x → ∀ (M : Mem) (w : World) (v : Value), Gok M → (∀ b o y, M b o = some y → w.cell? ⟨b, o, none⟩ = some y) → ARep ρ0 (al0 M) (T.enc x) v → Calls P f #[v] w fun e w' => (∃ v, e = .returned v ∧ ARep ρ0 (al0 M) (out x) v) ∧ Below w.heap.size w w') : Spec P f :=
  mkC f hen (args1 T q) (fun x => [T.enc x]) out hpl
    (by
      intro as p x h _ ρ al vals hA
      unfold args1 at h
      split at h
      · split at h
        · rename_i hx
          injection h with h
          injection h with h1 h2
          subst h2
          match vals, hA with
          | [v], ⟨a, _⟩ => exact ⟨T.ok hx a, trivial⟩
        · cases h
      · cases h)
    (by
      intro as p x h hp M w vals hG hM hA
      unfold args1 at h
      split at h
      · split at h
        · injection h with h
          injection h with h1 h2
          subst h1
          subst h2
          match vals, hA with
          | [v], ⟨a, _⟩ => exact calls _ hp M w v hG hM a
        · cases h
      · cases h)

/-- a function with a late call, of one argument -/
def mk1D {α : Type} (f : FuncId) (fn : Func) (hen : ∀ (args : Array Value) (w : World), (callFunc f args).run P w = .ok (.enter f args) w) (T : Ty α) (q : α → Prop) (out : α → PO) (hn : 1 ≤ fn.ntmps)
    (body : ∀ x, q x → Does P f fn ⟨0, zipT 0 [T.enc x], []⟩ (out x)) : Spec P f :=
  mkPD f fn hen (args1 T q) (fun x => [T.enc x]) out
    (by
      intro as p x h _
      unfold args1 at h
      split at h
      · split at h
        · rename_i hx
          injection h with h
          injection h with h1 h2
          subst h2
          refine ⟨hn, fun ρ al vals hA => ?_⟩
          match vals, hA with
          | [v], ⟨a, _⟩ => exact ⟨T.ok hx a, trivial⟩
        · cases h
      · cases h)
    (by
      intro as p x h hp
      unfold args1 at h
      split at h
      · split at h
        · injection h with h
          injection h with h1 h2
          subst h1
          subst h2
          exact body _ hp
        · cases h
      · cases h)

/-- a walked function of deep values, called where all memory is as it lasts: a plain result -/
theorem law_calls {f : FuncId} {fn : Func} {c : Code} (hf : P.funcs[f]? = some fn) (hb : fn.body = some c) {xs : List AV} {vals : List Value} {w : World} (hG : Gok fun b o => w.cell? ⟨b, o, none⟩) (hA : AsRep ρ0 (al0 fun b o => w.cell? ⟨b, o, none⟩) xs vals) (hn : vals.length ≤ fn.ntmps) {v : Value}
    (hsw : SW P ⟨none, 0⟩ fn.ntmps c ⟨0, zipT 0 xs, []⟩ (outQ P fn.results.toList (.ret (.s (.l (.v v)))))) : Calls P f vals.toArray w fun e w' => e = .returned v ∧ Below w.heap.size w w' := by
  refine calls_of_sw (K := 0) (B := ⟨fun k => k < w.heap.size, fun b o => w.cell? ⟨b, o, none⟩, [], [], hG⟩) (ρ := ρ0) (al := al0 fun b o => w.cell? ⟨b, o, none⟩) (s0 := ⟨0, zipT 0 xs, []⟩) hf hb rfl rfl
    ⟨by simp; omega, Marks.nil _ _ _, enter_t hA _, ⟨fun _ hk => hk, .refl _ _, (fun b k hk => by cases hk), (fun b k hk => by cases hk), (fun b k hk => by cases hk), (fun b c k l hk => by cases hk), fun b o y hy => hy, (fun b k hk => by cases hk), fun b o y hy => .inl hy, Mem.le_refl _, fun j l hj => by simp at hj⟩, fun b hb => hb.elim⟩ hsw ?_ ?_
  · intro s ρ1 al1 a w1 hq1 H1
    obtain ⟨r0, q1, u1, r1, h1, h2, h3, h4⟩ := retQ_some hq1
    injection h4 with h4
    subst h4
    obtain ⟨v', g1, g2⟩ := aRet_sound (fn := fn) H1 h1
    have g3 := AV.toD_rep (U := u1) (ρ2 := ρ1) (al2 := ⟨al1.p, frzM al1.M ρ1 s.h u1 w1⟩) H1.w rfl h2 h3 (fun _ hc => hc) g2
    obtain rfl : v' = v := g3
    refine ⟨v', g1, rfl, ?_⟩
    have hk := H1.w.below
    exact ⟨hk.os, hk.tape, hk.output, hk.size, hk.block⟩
  · intro y s ρ1 al1 a w1 h1 H1
    cases h1

/-! lasting slices of flat rows as the elder contracts see them -/
theorem dsAt_get {M : Mem} {blk : Nat} : ∀ {off : Nat} {e : List Value}, DsAt M blk off (e.map .v) → ∀ (j : Nat) (u : Value), e[j]? = some u → M blk (off + j) = some u
  | off, [], _, j, u, hu => by simp at hu
  | off, x :: e, h, j, u, hu => by
    simp only [List.map_cons, DsAt] at h
    obtain ⟨⟨y, h1, _, h3⟩, h4⟩ := h
    simp only [DRep] at h3
    subst h3
    cases j with
    | zero => simp at hu; subst hu; exact h1
    | succ j =>
      have := dsAt_get h4 j u (by simpa using hu)
      rwa [show off + (j + 1) = off + 1 + j by omega]
theorem dssAt_get {M : Mem} {blk sz : Nat} : ∀ {off : Nat} {rows : List (List Value)}, DssAt M blk off sz (rows.map fun e => e.map .v) → ∀ (j : Nat) (u : Value), rows.flatten[j]? = some u → M blk (off + j) = some u
  | off, [], _, j, u, hu => by simp at hu
  | off, e :: r, h, j, u, hu => by
    simp only [List.map_cons, DssAt] at h
    obtain ⟨h1, h2, h3⟩ := h
    rw [List.length_map] at h1
    rw [List.flatten_cons] at hu
    by_cases hj : j < e.length
    · rw [List.getElem?_append_left hj] at hu
      exact dsAt_get h2 j u hu
    · rw [List.getElem?_append_right (by omega)] at hu
      have := dssAt_get h3 (j - e.length) u hu
      rwa [show off + sz + (j - e.length) = off + j by omega] at this
theorem dssAt_len {M : Mem} {blk sz : Nat} : ∀ {off : Nat} {rows : List (List D)}, DssAt M blk off sz rows → ∀ e ∈ rows, e.length = sz
  | off, [], _, e, he => by simp at he
  | off, x :: r, h, e, he => by
    simp only [DssAt] at h
    rcases List.mem_cons.1 he with rfl | he
    · exact h.1
    · exact dssAt_len h.2.2 e he

theorem sl_of {M : Mem} {w : World} (hM : ∀ b o y, M b o = some y → w.cell? ⟨b, o, none⟩ = some y) {sz : Nat} {rows : List (List Value)} (hl : rows.flatten.length = rows.length * sz) (hsz : rows ≠ [] → rows.flatten ≠ []) {v : Value} (h : DRep M (.sd sz (rows.map fun e => e.map .v)) v) :
    ∃ A cap, v = .slice A rows.length cap ∧ SL w w.heap.size sz A rows.length rows.flatten := by
  simp only [DRep] at h
  obtain ⟨A, cap, rfl, hc, hA⟩ := h
  refine ⟨A, cap, by rw [List.length_map], hl, fun hn => ?_⟩
  have hne : rows ≠ [] := by intro e; rw [e] at hn; simp at hn
  obtain ⟨blk, off, rfl, hat⟩ := hA (by simpa using hne)
  have hg := dssAt_get hat
  refine ⟨blk, off, rfl, ?_, fun j u hu => hM _ _ _ (hg j u hu)⟩
  cases hf : rows.flatten with
  | nil => exact (hsz hne hf).elim
  | cons x r =>
    have h0 := hM _ _ _ (hg 0 x (by rw [hf]; rfl))
    obtain ⟨q, h1, _⟩ := isCells_of h0
    exact (Array.getElem?_eq_some_iff.1 h1).1
end

section
/-- cells of a slice of flat rows, in the other direction -/
theorem dsAt_of {M : Mem} {blk : Nat} : ∀ {off : Nat} {e : List Value}, (∀ (j : Nat) (u : Value), e[j]? = some u → M blk (off + j) = some u ∧ u.oneCell' = true) → DsAt M blk off (e.map .v)
  | off, [], _ => by simp only [List.map_nil, DsAt]
  | off, x :: e, h => by
    simp only [List.map_cons, DsAt]
    obtain ⟨h1, h2⟩ := h 0 x rfl
    exact ⟨⟨x, h1, h2, by simp only [DRep]⟩, dsAt_of fun j u hu => by have := h (j + 1) u (by simpa using hu); rwa [show off + (j + 1) = off + 1 + j by omega] at this⟩
theorem dssAt_of {M : Mem} {blk sz : Nat} : ∀ {off : Nat} {rows : List (List Value)}, (∀ e ∈ rows, e.length = sz) → (∀ (i j : Nat) (e : List Value) (u : Value), rows[i]? = some e → e[j]? = some u → M blk (off + i * sz + j) = some u ∧ u.oneCell' = true) → DssAt M blk off sz (rows.map fun e => e.map .v)
  | off, [], _, _ => by simp only [List.map_nil, DssAt]
  | off, x :: r, hl, h => by
    simp only [List.map_cons, DssAt]
    refine ⟨by rw [List.length_map]; exact hl x (by simp), dsAt_of fun j u hu => by have := h 0 j x u rfl hu; simpa using this, dssAt_of (fun e he => hl e (by simp [he])) fun i j e u he hu => ?_⟩
    have := h (i + 1) j e u (by simpa using he) hu
    rwa [show off + (i + 1) * sz + j = off + sz + i * sz + j by rw [Nat.add_mul]; omega] at this
end

end Go.Proofs.YtcdbldakjepjiaaDoor
