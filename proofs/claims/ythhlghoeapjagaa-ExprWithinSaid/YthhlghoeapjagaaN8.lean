/- The parser's terms are an expression; what it comes to can be printed. No program in sight. -/
import Derived.Test.YthhlghoeapjagaaN1
import Derived.Test.YthhlghoeapjagaaPlain3
import Derived.OpenShut
set_option linter.unusedVariables false
set_option linter.unusedSimpArgs false
namespace Go.Proofs.Ythhlghoeapjagaa
open Go.RowKit

/-- how many values terms leave; none: they are none -/
def havF : Int → List Term → Option Int
  | h, [] => some h
  | h, t :: r => if termB t = false ∨ h < takesF t.kind then none else havF (h + (1 - takesF t.kind)) r

theorem havF_snoc : ∀ (ts : List Term) (h : Int) (t : Term), havF h (ts ++ [t]) = (havF h ts).bind fun q => if termB t = false ∨ q < takesF t.kind then none else some (q + (1 - takesF t.kind))
  | [], h, t => by simp only [List.nil_append, havF, Option.bind_some]
  | x :: r, h, t => by
    simp only [List.cons_append, havF]
    split
    · rfl
    · exact havF_snoc r _ t

theorem havF_form : ∀ (ts : List Term) (h : Int), havF h ts = some 1 → formF h ts = 0
  | [], h, e => by
    injection e with e
    rw [formF, if_pos e]
  | t :: r, h, e => by
    rw [havF] at e
    split at e
    · cases e
    · rename_i hn
      rw [formF, if_neg hn]
      exact havF_form r _ e

theorem havF_terms : ∀ (ts : List Term) (h q : Int), havF h ts = some q → ∀ t ∈ ts, termB t = true
  | [], h, q, _, t, ht => by simp at ht
  | x :: r, h, q, e, t, ht => by
    rw [havF] at e
    split at e
    · cases e
    · rename_i hn
      rcases List.mem_cons.1 ht with rfl | ht
      · cases hb : termB t with
        | true => rfl
        | false => exact (hn (.inl hb)).elim
      · exact havF_terms r _ q e t ht

/-- what each part of the parser does to the terms -/
def Nice (F : PS → PR) : Prop := ∀ s h, 0 ≤ h → havF 0 s.ts = some h → match F s with
  | .ok s' => havF 0 s'.ts = some (h + 1)
  | .error e => e ≠ 0

theorem putF_nice {t : Term} {s : PS} {h : Int} (hb : termB t = true) (ht : takesF t.kind ≤ h) (hs : havF 0 s.ts = some h) : match putF t s with
    | .ok s' => havF 0 s'.ts = some (h + (1 - takesF t.kind))
    | .error e => e ≠ 0 := by
  unfold putF
  by_cases hl : 256 < s.ts.length + 1
  · rw [if_pos hl]; show (93 : Int) ≠ 0; decide
  · rw [if_neg hl]
    show havF 0 (s.ts ++ [t]) = _
    rw [havF_snoc, hs, Option.bind_some, if_neg]
    rw [hb]
    rintro (h1 | h1)
    · cases h1
    · omega

theorem openedF_nice {read : PS → PR} (hr : Nice read) : Nice (openedF read) := by
  intro s h h0 hs
  unfold openedF
  by_cases hl : 64 < s.op + 1
  · rw [if_pos hl]; show (93 : Int) ≠ 0; decide
  · rw [if_neg hl]
    have := hr ⟨s.at_ + 1, s.op + 1, s.ts⟩ h h0 hs
    split at this
    · rename_i e; rw [e]; exact this
    · rename_i e; rw [e]; exact this

theorem foundF_mem {s : ByteArray} : ∀ {kinds : List Int} {f : Int}, foundF s kinds f = f ∨ foundF s kinds f ∈ kinds
  | [], f => .inl rfl
  | k :: r, f => by
    rw [foundF]
    rcases foundF_mem (s := s) (kinds := r) (f := if s ≠ emp ∧ s = signF k then k else f) with h | h
    · rw [h]
      split
      · exact .inr (by simp)
      · exact .inl rfl
    · exact .inr (List.mem_cons_of_mem _ h)

theorem rowLoop_nice {l : List Tok} {read : PS → PR} {kinds : List Int} (hk : ∀ k ∈ kinds, 5 ≤ k ∧ k ≤ 14) (hr : Nice read) : ∀ (m : Nat) (s : PS) (h : Int), 0 ≤ h → havF 0 s.ts = some (h + 1) → match rowLoop l read kinds m s with
    | .ok s' => havF 0 s'.ts = some (h + 1)
    | .error e => e ≠ 0
  | 0, s, h, _, hs => hs
  | m + 1, s, h, h0, hs => by
    rw [rowLoop]
    by_cases hf : foundF (nextF l s) kinds 0 = 0
    · rw [if_pos hf]; exact hs
    · rw [if_neg hf]
      have hm : foundF (nextF l s) kinds 0 ∈ kinds := (foundF_mem.resolve_left hf)
      have hb := hk _ hm
      have h1 := hr ⟨s.at_ + 1, s.op, s.ts⟩ (h + 1) (by omega) hs
      split at h1
      case h_2 => rename_i e he; rw [he]; exact h1
      rename_i q he
      rw [he]
      have ht : takesF (foundF (nextF l s) kinds 0) = 2 := by unfold takesF; rw [if_neg (by omega), if_pos hb]
      have h2 := putF_nice (t := ⟨foundF (nextF l s) kinds 0, 0, emp⟩) (s := q) (h := h + 1 + 1) (by
        unfold termB
        simp only
        rw [if_neg (by omega), if_neg (by omega), ht]
        simp) (by show takesF _ ≤ _; rw [ht]; omega) h1
      simp only at h2 ⊢
      rw [ht] at h2
      split at h2
      case h_2 => rename_i e he2; rw [he2]; exact h2
      rename_i q2 he2
      rw [he2]
      exact rowLoop_nice hk hr m q2 h h0 (by rw [h2]; congr 1; omega)

theorem rowF_nice {l : List Tok} {read : PS → PR} {kinds : List Int} (hk : ∀ k ∈ kinds, 5 ≤ k ∧ k ≤ 14) (hr : Nice read) : Nice (rowF l read kinds) := by
  intro s h h0 hs
  unfold rowF
  have h1 := hr s h h0 hs
  split at h1
  case h_2 => rename_i e he; rw [he]; exact h1
  rename_i q he
  rw [he]
  exact rowLoop_nice hk hr _ q h h0 h1

theorem levelsF_nice {l : List Tok} {read : PS → PR} (hr : Nice read) : Nice (levelsF l read) :=
  rowF_nice (by simp) (rowF_nice (by simp) (rowF_nice (by simp) (rowF_nice (by simp) (rowF_nice (by simp) (rowF_nice (by simp) hr)))))

/-- all names among the tokens are names -/
def Named (l : List Tok) : Prop := ∀ t ∈ l, t.kind = 1 → symB t.text = true

theorem operandF_nice {l : List Tok} (hl : Named l) : ∀ N : Nat, Nice (operandF l N)
  | 0 => fun s h _ _ => by show (90 : Int) ≠ 0; decide
  | N + 1 => by
    have ih := operandF_nice hl N
    intro s h h0 hs
    rw [operandF]
    cases ht : l[s.at_]? with
    | none => show (90 : Int) ≠ 0; decide
    | some t =>
      simp only
      by_cases c2 : t.kind = 2
      · rw [if_pos c2]
        have := putF_nice (t := ⟨1, wrap64 t.n, emp⟩) (s := { s with at_ := s.at_ + 1 }) (h := h) (by simp [termB]) (by show takesF 1 ≤ h; exact h0) hs
        rw [show takesF 1 = 0 by decide] at this
        exact this
      rw [if_neg c2]
      by_cases c1 : t.kind = 1
      · rw [if_pos c1]
        have hn := hl t (List.mem_of_getElem? ht) c1
        have := putF_nice (t := ⟨2, 0, t.text⟩) (s := { s with at_ := s.at_ + 1 }) (h := h) (by simp [termB, hn]) (by show takesF 2 ≤ h; exact h0) hs
        rw [show takesF 2 = 0 by decide] at this
        exact this
      rw [if_neg c1]
      by_cases cp : t.kind = 4 ∧ t.text = ⟨#[40]⟩
      · rw [if_pos cp]
        have h1 := openedF_nice (levelsF_nice (l := l) ih) s h h0 hs
        split at h1
        case h_2 => rename_i e he; rw [he]; exact h1
        rename_i q he
        rw [he]
        simp only
        by_cases hc : nextF l q = ⟨#[41]⟩
        · rw [if_pos hc]; exact h1
        · rw [if_neg hc]; show (90 : Int) ≠ 0; decide
      rw [if_neg cp]
      by_cases cs : t.kind = 4 ∧ (t.text = ⟨#[45]⟩ ∨ t.text = ⟨#[126]⟩)
      · rw [if_pos cs]
        have h1 := openedF_nice ih s h h0 hs
        split at h1
        case h_2 => rename_i e he; rw [he]; exact h1
        rename_i q he
        rw [he]
        simp only
        by_cases hc : t.text = ⟨#[126]⟩
        · rw [if_pos hc]
          have := putF_nice (t := ⟨4, 0, emp⟩) (s := q) (h := h + 1) (by decide) (by show takesF 4 ≤ _; rw [show takesF 4 = 1 by decide]; omega) h1
          rw [show takesF 4 = 1 by decide, show h + 1 + (1 - 1) = h + 1 by omega] at this
          exact this
        · rw [if_neg hc]
          have := putF_nice (t := ⟨3, 0, emp⟩) (s := q) (h := h + 1) (by decide) (by show takesF 3 ≤ _; rw [show takesF 3 = 1 by decide]; omega) h1
          rw [show takesF 3 = 1 by decide, show h + 1 + (1 - 1) = h + 1 by omega] at this
          exact this
      · rw [if_neg cs]; show (90 : Int) ≠ 0; decide

/-- what is read is an expression -/
theorem parseF_nice {l : List Tok} (hl : Named l) : match parseF l with
    | .ok s => checkF s.ts = 0 ∧ (∀ t ∈ s.ts, termB t = true) ∧ 1 ≤ s.at_ ∧ s.at_ ≤ l.length ∧ s.ts.length ≤ 256
    | .error e => e ≠ 0 := by
  have h1 := levelsF_nice (l := l) (operandF_nice hl l.length) ⟨0, 0, []⟩ 0 (by decide) rfl
  unfold parseF
  split at h1
  · rename_i s he
    have hg := levelsF_goes (l := l) (operandF_goes l.length) _ _ ⟨Nat.zero_le _, by simp, by decide, by decide, by simp⟩ he
    refine ⟨?_, havF_terms _ _ _ h1, by have := hg.1; simp only at this; omega, hg.2.1, hg.2.2.2⟩
    unfold checkF
    rw [if_neg (by have := hg.2.2.2; omega)]
    exact havF_form _ _ h1
  · exact h1

/-! What it comes to -/
structure GoodV (v : Val) : Prop where
  p : v.plus = emp ∨ symB v.plus = true
  m : v.minus = emp ∨ symB v.minus = true
  ne : v.plus = v.minus → v.plus = emp
  lo : -9223372036854775808 ≤ v.add
  hi : v.add ≤ 9223372036854775807

theorem wrap64_rg (n : Int) : -9223372036854775808 ≤ wrap64 n ∧ wrap64 n ≤ 9223372036854775807 := by unfold wrap64; omega
theorem bits_rg (op : BinOp) (a b : Int) : -9223372036854775808 ≤ bits op .i64 a b ∧ bits op .i64 a b ≤ 9223372036854775807 := by
  have := bounds_i64 (wf_bits op .i64 a b)
  omega

theorem goodZero : GoodV zeroV := ⟨.inl rfl, .inl rfl, fun _ => rfl, by decide, by decide⟩
theorem goodNum {a : Int} (h : -9223372036854775808 ≤ a ∧ a ≤ 9223372036854775807) : GoodV ⟨a, emp, emp⟩ := ⟨.inl rfl, .inl rfl, fun _ => rfl, h.1, h.2⟩
theorem symB_emp : symB emp = false := by decide

theorem goodNeg {v : Val} (h : GoodV v) : GoodV (negF v) := ⟨h.m, h.p, fun e => by
  have e' : v.minus = v.plus := e
  have := h.ne e'.symm
  show v.minus = emp
  rw [e']; exact this, (wrap64_rg _).1, (wrap64_rg _).2⟩

theorem goodClear {v : Val} (h : GoodV v) : GoodV (clearF v) ∧ (clearF v).plus = v.plus ∧ (clearF v).minus = v.minus := by
  unfold clearF
  by_cases e : v.plus = v.minus
  · rw [if_pos e]
    have h1 := h.ne e
    exact ⟨⟨.inl rfl, .inl rfl, fun _ => rfl, h.lo, h.hi⟩, h1.symm, by rw [← e, h1]⟩
  · rw [if_neg e]; exact ⟨h, rfl, rfl⟩

theorem append_emp (a : ByteArray) : a ++ emp = a := by
  refine ByteArray.ext ?_
  rw [ByteArray.data_append]; simp [emp]
theorem emp_append (a : ByteArray) : emp ++ a = a := by
  refine ByteArray.ext ?_
  rw [ByteArray.data_append]; simp [emp]

theorem goodAdd {a b : Val} (ha : GoodV a) (hb : GoodV b) : GoodV (addF a b).1 := by
  obtain ⟨ga, pa, ma⟩ := goodClear ha
  obtain ⟨gb, pb, mb⟩ := goodClear hb
  unfold addF
  simp only [pa, ma, pb, mb]
  split
  · exact goodZero
  · rename_i hn
    have hx : (meetF a.plus b.minus).1 = emp ∨ (meetF a.minus b.plus).2 = emp := by
      rcases Classical.em ((meetF a.plus b.minus).1 = emp) with h | h
      · exact .inl h
      · rcases Classical.em ((meetF a.minus b.plus).2 = emp) with h2 | h2
        · exact .inr h2
        · exact (hn (.inl ⟨h, h2⟩)).elim
    have hy : (meetF a.minus b.plus).1 = emp ∨ (meetF a.plus b.minus).2 = emp := by
      rcases Classical.em ((meetF a.minus b.plus).1 = emp) with h | h
      · exact .inl h
      · rcases Classical.em ((meetF a.plus b.minus).2 = emp) with h2 | h2
        · exact .inr h2
        · exact (hn (.inr ⟨h, h2⟩)).elim
    have r := wrap64_rg ((clearF a).add + (clearF b).add)
    have e0 : symB emp = false := symB_emp
    unfold meetF at hx hy ⊢
    by_cases h1 : a.plus = b.minus <;> by_cases h2 : a.minus = b.plus
    · simp only [h1, h2, if_true, append_emp]
      exact goodNum r
    · simp only [h1, h2, if_true, if_false, emp_append, append_emp] at hx hy ⊢
      exact ⟨hb.p, ha.m, fun e => (h2 e.symm).elim, r.1, r.2⟩
    · simp only [h1, h2, if_true, if_false, emp_append, append_emp] at hx hy ⊢
      exact ⟨ha.p, hb.m, fun e => (h1 e).elim, r.1, r.2⟩
    · simp only [h1, h2, if_false] at hx hy ⊢
      rcases hx with ex | ex <;> rcases hy with ey | ey
      · rw [ex, ey, emp_append, emp_append]
        exact ⟨hb.p, hb.m, hb.ne, r.1, r.2⟩
      · rw [ex, ey, emp_append, append_emp]
        exact ⟨hb.p, ha.m, fun e => (h2 e.symm).elim, r.1, r.2⟩
      · rw [ex, ey, append_emp, emp_append]
        exact ⟨ha.p, hb.m, fun e => (h1 e).elim, r.1, r.2⟩
      · rw [ex, ey, append_emp, append_emp]
        exact ⟨ha.p, ha.m, ha.ne, r.1, r.2⟩

theorem div_rg {k a b : Int} (ha : -9223372036854775808 ≤ a ∧ a ≤ 9223372036854775807) : -9223372036854775808 ≤ (divF k a b).1 ∧ (divF k a b).1 ≤ 9223372036854775807 := by
  unfold divF
  split
  · exact ⟨by decide, by decide⟩
  split
  · exact ⟨by decide, by decide⟩
  split
  · show _ ≤ a.tmod b ∧ a.tmod b ≤ _
    rcases Int.le_total 0 a with h | h
    · have h1 := Int.tmod_nonneg b h
      have h2 : a.tmod b ≤ a := by
        have := Int.emod_emod_of_dvd
        rw [Int.tmod_def]
        have h3 : 0 ≤ b * a.tdiv b := by
          rcases Int.le_total 0 b with hb | hb
          · exact Int.mul_nonneg hb (Int.tdiv_nonneg h hb)
          · have : a.tdiv b ≤ 0 := Int.tdiv_nonpos_of_nonneg_of_nonpos h hb
            have := Int.mul_nonneg_of_nonpos_of_nonpos hb this
            exact this
        omega
      omega
    · have h4 : (-a).tmod b = - a.tmod b := Int.neg_tmod ..
      have h1 := Int.tmod_nonneg (a := -a) b (by omega)
      have h2 : (-a).tmod b ≤ -a := by
        rw [Int.tmod_def]
        have h3 : 0 ≤ b * (-a).tdiv b := by
          rcases Int.le_total 0 b with hb | hb
          · exact Int.mul_nonneg hb (Int.tdiv_nonneg (by omega) hb)
          · have : (-a).tdiv b ≤ 0 := Int.tdiv_nonpos_of_nonneg_of_nonpos (by omega) hb
            exact Int.mul_nonneg_of_nonpos_of_nonpos hb this
        omega
      omega
  split
  · exact wrap64_rg _
  · exact wrap64_rg _

theorem num_rg {k a b : Int} (ha : -9223372036854775808 ≤ a ∧ a ≤ 9223372036854775807) : -9223372036854775808 ≤ (numF k a b).1 ∧ (numF k a b).1 ≤ 9223372036854775807 := by
  rcases numF_cases k a b with ⟨_, h⟩ | ⟨_, h⟩ | ⟨_, h⟩ | ⟨_, h⟩ | ⟨_, h⟩ | ⟨_, h⟩ | ⟨_, _, _, _, _, _, ⟨_, h⟩ | ⟨_, _, _, h⟩ | ⟨_, _, _, h⟩⟩
  · rw [h]; exact wrap64_rg (a * b)
  · rw [h]; exact div_rg ha
  · rw [h]; exact div_rg ha
  · rw [h]; exact bits_rg .and a b
  · rw [h]; exact bits_rg .xor a b
  · rw [h]; exact bits_rg .or a b
  · rw [h]; exact ⟨by decide, by decide⟩
  · rw [h]; exact wrap64_rg (a * 2 ^ b.toNat)
  · rw [h]; exact wrap64_rg (IntKind.u64.wrap a / 2 ^ b.toNat)

theorem goodApply {k : Int} {a b : Val} (ha : GoodV a) (hb : GoodV b) : GoodV (applyF k a b).1 := by
  unfold applyF
  split
  · exact goodNeg hb
  split
  · split
    · exact goodNum (bits_rg .xor (-1) b.add)
    · exact goodZero
  split
  · exact goodAdd ha hb
  split
  · exact goodAdd ha (goodNeg hb)
  split
  · exact goodNum (num_rg ⟨ha.lo, ha.hi⟩)
  · exact goodZero

theorem goodGet {vs : List Val} (h : ∀ v ∈ vs, GoodV v) (i : Nat) : GoodV (vs.getD i zeroV) := by
  rw [List.getD_eq_getElem?_getD]
  cases hv : vs[i]? with
  | none => exact goodZero
  | some v => exact h v (List.mem_of_getElem? hv)

theorem goodEval : ∀ (ts : List Term) (vs : List Val), (∀ v ∈ vs, GoodV v) → (∀ t ∈ ts, termB t = true) → (∀ t ∈ ts, -9223372036854775808 ≤ t.n ∧ t.n ≤ 9223372036854775807) → GoodV (evalF vs ts).1
  | [], vs, hv, _, _ => goodGet hv 0
  | t :: r, vs, hv, ht, hn => by
    have htb := ht t (by simp)
    have htn := hn t (by simp)
    rw [evalF]
    split
    · rename_i h0
      refine goodEval r _ (fun v hvm => ?_) (fun x hx => ht x (by simp [hx])) (fun x hx => hn x (by simp [hx]))
      rcases List.mem_append.1 hvm with h | h
      · exact hv v h
      · simp only [List.mem_singleton] at h
        subst h
        unfold termB at htb
        split at htb
        · have e : t.sym = emp := of_decide_eq_true htb
          rw [e]; exact goodNum htn
        split at htb
        · simp only [Bool.and_eq_true] at htb
          exact ⟨.inr htb.2, .inl rfl, fun e => e, htn.1, htn.2⟩
        · simp only [Bool.and_eq_true, decide_eq_true_eq] at htb
          have := htb.1.1
          omega
    · dsimp only
      split
      · refine goodEval r _ (fun v hvm => ?_) (fun x hx => ht x (by simp [hx])) (fun x hx => hn x (by simp [hx]))
        rcases List.mem_append.1 hvm with h | h
        · exact hv v (List.mem_of_mem_take h)
        · simp only [List.mem_singleton] at h
          subst h
          exact goodApply (goodGet hv _) (goodGet hv _)
      · exact goodZero

theorem goodPrint {v : Val} (h : GoodV v) : (printF v).2 = 0 := by
  unfold printF
  rw [if_neg, if_neg]
  · split
    · split <;> rfl
    · rfl
  · rintro ⟨e, hne⟩
    exact hne (h.ne e)
  · rintro (⟨h1, h2⟩ | ⟨h1, h2⟩)
    · rcases h.p with h3 | h3
      · exact h1 h3
      · rw [h3] at h2; cases h2
    · rcases h.m with h3 | h3
      · exact h1 h3
      · rw [h3] at h2; cases h2

theorem goodSize {v : Val} (h : GoodV v) : v.plus.size ≤ 512 ∧ v.minus.size ≤ 512 := by
  have key : ∀ s : ByteArray, s = emp ∨ symB s = true → s.size ≤ 512 := by
    rintro s (rfl | h)
    · decide
    · exact symB_size h
  exact ⟨key _ h.p, key _ h.m⟩

theorem termB_size {t : Term} (h : termB t = true) : t.sym.size ≤ 512 := by
  have e0 : emp.size = 0 := rfl
  unfold termB at h
  split at h
  · have e : t.sym = emp := of_decide_eq_true h
    rw [e, e0]; decide
  split at h
  · simp only [Bool.and_eq_true] at h
    exact symB_size h.2
  · simp only [Bool.and_eq_true, decide_eq_true_eq] at h
    rw [h.2, e0]; decide
theorem termB_n {t : Term} (h : termB t = true) (h1 : t.kind ≠ 1) : t.n = 0 := by
  unfold termB at h
  rw [if_neg h1] at h
  split at h
  · simp only [Bool.and_eq_true, decide_eq_true_eq] at h; exact h.1
  · simp only [Bool.and_eq_true, decide_eq_true_eq] at h; exact h.1.2

/-! the numbers among the terms are numbers of 64 bits -/
def Rgs (ts : List Term) : Prop := ∀ t ∈ ts, -9223372036854775808 ≤ t.n ∧ t.n ≤ 9223372036854775807
def Keeping (F : PS → PR) : Prop := ∀ s s', Rgs s.ts → F s = .ok s' → Rgs s'.ts

theorem zero_rg : -9223372036854775808 ≤ (0 : Int) ∧ (0 : Int) ≤ 9223372036854775807 := by decide
theorem putF_keep {t : Term} {s s' : PS} (ht : -9223372036854775808 ≤ t.n ∧ t.n ≤ 9223372036854775807) (hs : Rgs s.ts) (h : putF t s = .ok s') : Rgs s'.ts := by
  obtain ⟨rfl, -⟩ := putF_ok h
  intro x hx
  rcases List.mem_append.1 hx with hx | hx
  · exact hs x hx
  · simp only [List.mem_singleton] at hx
    subst hx
    exact ht

theorem openedF_keep {read : PS → PR} (hr : Keeping read) : Keeping (openedF read) := by
  intro s s' hs e
  unfold openedF at e
  split at e
  · cases e
  · split at e
    · rename_i q hq
      injection e with e
      subst e
      exact hr ⟨s.at_ + 1, s.op + 1, s.ts⟩ q hs hq
    · cases e

theorem rowLoop_keep {l : List Tok} {read : PS → PR} {kinds : List Int} (hr : Keeping read) : ∀ (m : Nat) (s s' : PS), Rgs s.ts → rowLoop l read kinds m s = .ok s' → Rgs s'.ts
  | 0, s, s', hs, e => by injection e with e; subst e; exact hs
  | m + 1, s, s', hs, e => by
    rw [rowLoop] at e
    split at e
    · injection e with e; subst e; exact hs
    · split at e
      · cases e
      · rename_i q hq
        have h1 := hr ⟨s.at_ + 1, s.op, s.ts⟩ q hs hq
        split at e
        · cases e
        · rename_i q2 hq2
          exact rowLoop_keep hr m q2 s' (putF_keep zero_rg h1 hq2) e

theorem rowF_keep {l : List Tok} {read : PS → PR} {kinds : List Int} (hr : Keeping read) : Keeping (rowF l read kinds) := by
  intro s s' hs e
  unfold rowF at e
  split at e
  · cases e
  · rename_i q hq
    exact rowLoop_keep hr _ q s' (hr s q hs hq) e

theorem operandF_keep {l : List Tok} : ∀ N : Nat, Keeping (operandF l N)
  | 0 => fun s s' _ e => by cases e
  | N + 1 => by
    have ih := operandF_keep (l := l) N
    intro s s' hs e
    rw [operandF] at e
    split at e
    · cases e
    · rename_i t ht
      split at e
      · exact putF_keep (s := { s with at_ := s.at_ + 1 }) (wrap64_rg t.n) hs e
      split at e
      · exact putF_keep (s := { s with at_ := s.at_ + 1 }) zero_rg hs e
      split at e
      · split at e
        · cases e
        · rename_i q hq
          have h1 := openedF_keep (rowF_keep (rowF_keep (rowF_keep (rowF_keep (rowF_keep (rowF_keep ih)))))) s q hs hq
          split at e
          · injection e with e; subst e; exact h1
          · cases e
      split at e
      · split at e
        · cases e
        · rename_i q hq
          exact putF_keep zero_rg (openedF_keep ih s q hs hq) e
      · cases e

theorem parseF_keep {l : List Tok} {s : PS} (h : parseF l = .ok s) : Rgs s.ts :=
  rowF_keep (rowF_keep (rowF_keep (rowF_keep (rowF_keep (rowF_keep (operandF_keep l.length)))))) ⟨0, 0, []⟩ s (fun t ht => by simp at ht) h

end Go.Proofs.Ythhlghoeapjagaa
