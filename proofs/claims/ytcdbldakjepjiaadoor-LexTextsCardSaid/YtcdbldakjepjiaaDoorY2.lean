/- The value logic with lasting memory: ranges over functions, part 2: the code of an iterator, evaluated. No program in sight. -/
import Derived.Test.YtcdbldakjepjiaaDoorY1
set_option linter.unusedVariables false
set_option linter.unusedSimpArgs false
namespace Go.Proofs.YtcdbldakjepjiaaDoor
open Go.RowKit

section
variable {P : Program} {ctx : Ctx P} {l : Nat} {L : List (List AV)} {ro : Cf} {n : Nat} {s : St} {Q : Exit → St → Nat × Bool → Prop}

/-- what one operation of an iterator's code does, and what comes behind it -/
def yStep (P : Program) (ctx : Ctx P) (l : Nat) (L : List (List AV)) (n : Nat) (d : Option Tmp) (op : Op) (s : St) (y : Nat × Bool) (Q : Exit → St → Nat × Bool → Prop) (K : St → Nat × Bool → Prop) : Prop :=
  match aPan P ctx s.nx op (evT s.t) s.h with
  | some (ob, x, E) => ob ∧ ownL E = true ∧ Q (.panic [{ v := x, recovered := false }]) ⟨s.nx + 16, s.t, E ++ s.h⟩ y
  | none => match aOp P ctx s.nx op (evT s.t) s.h with
    | some R => dstOk n d = true ∧ R.ob ∧ ownL R.E = true ∧ K ⟨s.nx + 16, putT s.t d R.r, R.E ++ s.h⟩ y
    | none => match yOp l op (evT s.t) with
      | some As => dstOk n d = true ∧ y.2 = true ∧ L[y.1]? = some As ∧ As.all (·.pin 0) = true ∧
          K ⟨s.nx, putT s.t d (.s (.l (.v (.bool true)))), s.h⟩ (y.1 + 1, true) ∧ K ⟨s.nx, putT s.t d (.s (.l (.v (.bool false)))), s.h⟩ (y.1 + 1, false)
      | none => False

theorem yStep_wp {γ : Type} {R : Rounds P l L γ} {B : Base} {w0 : World} {g0 g : γ} {ρ : Nat → Loc} {al : Al} {a : Act} {w : World} {y : Nat × Bool} (H : YRep R n B w0 g0 ρ al s a w g) (h1 : R.pos g = y.1) (h2 : R.live g = y.2) {o : Oper} {K : St → Nat × Bool → Prop} {K' : Act → World → Prop} {Q' : Exit → Act → World → Prop}
    (h : yStep P ctx l L n o.dst o.op s y Q K)
    (hK : ∀ s' y' ρ' al' a' w' g', YRep R n B w0 g0 ρ' al' s' a' w' g' → R.pos g' = y'.1 → R.live g' = y'.2 → K s' y' → K' a' w')
    (hQ : ∀ ch s' ρ' al' w', YRep R n B w0 g0 ρ' al' s' a w' g → Q (.panic ch) s' y → Q' (.panic ch) a w') : o.wpIn (Fw ro) 0 P a w K' Q' := by
  unfold yStep at h
  split at h
  · rename_i ob x E hp
    exact aPan_wp H.down hp h.1 fun ρ' al' w' H' => hQ _ _ ρ' al' w' (H.up H' (ownL_append h.2.1 H.own)) h.2.2
  · split at h
    · rename_i Rs hR
      exact aOp_wp H.down hR h.2.1 h.1 fun ρ' al' a' w' H' => hK _ _ ρ' al' a' w' g (H.up H' (ownL_append h.2.2.1 H.own)) h1 h2 h.2.2.2
    · split at h
      case h_2 => exact h.elim
      rename_i As hy
      obtain ⟨hd, hl, hL, hp, ht, hf⟩ := h
      refine H.yield_wp hy (h2.trans hl) (by rw [h1]; exact hL) hp hd fun g' a' w' hpos H' => ?_
      cases e : R.live g' with
      | true =>
        rw [e] at H'
        exact hK _ _ ρ al a' w' g' H' (by rw [hpos, h1]) e ht
      | false =>
        rw [e] at H'
        exact hK _ _ ρ al a' w' g' H' (by rw [hpos, h1]) e hf

noncomputable def yRun (P : Program) (ctx : Ctx P) (l : Nat) (L : List (List AV)) (ro : Cf) (n : Nat) : Nat → List Itm → St → Nat × Bool → (Exit → St → Nat × Bool → Prop) → Prop
  | 0, _, _, _, _ => False
  | _ + 1, [], s, y, Q => Q .normal s y
  | f + 1, .b _ :: r, s, y, Q => yRun P ctx l L ro n f r s y Q
  | f + 1, .o _ [] :: r, s, y, Q => yRun P ctx l L ro n f r s y Q
  | f + 1, .o all (o :: t) :: r, s, y, Q => match o.guard with
    | none => yStep P ctx l L n o.dst o.op s y Q fun s' y' => yRun P ctx l L ro n f (.o all t :: r) s' y' Q
    | some (j, want) => match gAt all s.t j with
      | .s (.l (.v (.bool q))) => dstOk n o.dst = true ∧
          (q = want → yStep P ctx l L n o.dst o.op ⟨s.nx, setG all s.t j want, s.h⟩ y Q fun s' y' => yRun P ctx l L ro n f (.o all t :: r) s' y' Q) ∧
          (q = !want → yRun P ctx l L ro n f (.o all t :: r) ⟨s.nx, putT (setG all s.t j (!want)) o.dst (.s (.l (.v (.tuple #[])))), s.h⟩ y Q)
      | .s (.l (.v (.tuple ⟨[]⟩))) => dstOk n o.dst = true ∧ yRun P ctx l L ro n f (.o all t :: r) ⟨s.nx, putT s.t o.dst (.s (.l (.v (.tuple #[])))), s.h⟩ y Q
      | _ => False
  | f + 1, .c x :: r, s, y, Q => match x with
    | .skip => yRun P ctx l L ro n f r s y Q
    | .label _ => yRun P ctx l L ro n f r s y Q
    | .ret => Q .ret s y
    | .exit id => match popTo id r with
      | some r' => yRun P ctx l L ro n f r' s y Q
      | none => Q (.exit id) s y
    | .seq x z => yRun P ctx l L ro n f (.c x :: .c z :: r) s y Q
    | .cond c x z => match evT s.t c with
      | .s (.l (.v (.bool q))) => (q = true → yRun P ctx l L ro n f (.c x :: r) s y Q) ∧ (q = false → yRun P ctx l L ro n f (.c z :: r) s y Q)
      | _ => False
    | .block id x => yRun P ctx l L ro n f (.c x :: .b id :: r) s y Q
    | .region _ ops false => yRun P ctx l L ro n f (.o ops.toList ops.toList :: r) s y Q
    | x => SWy P l L ro n x s y (fun e s' y' => match e with
      | .normal => yRun P ctx l L ro n f r s' y' Q
      | .exit id => match popTo id r with
        | some r' => yRun P ctx l L ro n f r' s' y' Q
        | none => Q (.exit id) s' y'
      | e => Q e s' y')

variable {γ : Type} (R : Rounds P l L γ)

def GoodY (P : Program) {l : Nat} {L : List (List AV)} {γ : Type} (R : Rounds P l L γ) (ro : Cf) (n : Nat) (B : Base) (w0 : World) (g0 : γ) (Q : Exit → St → Nat × Bool → Prop) (b : Frame) (k : List Item) (cs : List Frame) (r : List Itm) (a : Act) (w : World) : Prop :=
  ∃ e a' w', (∃ ρ al s g, YRep R n B w0 g0 ρ al s a' w' g ∧ Q e s (R.pos g, R.live g)) ∧ ArrivesIn (Machine.fenced P (Fw ro)) P (lone (b.atR a (r.map Itm.item ++ k)) cs w) b k cs e a' w'

theorem GoodY.step {R : Rounds P l L γ} {B : Base} {w0 : World} {g0 : γ} {b : Frame} {k : List Item} {cs : List Frame} {r r' : List Itm} {a a' : Act} {w w' : World} (hs : StepsIn (Machine.fenced P (Fw ro)) P (lone (b.atR a (r.map Itm.item ++ k)) cs w) (lone (b.atR a' (r'.map Itm.item ++ k)) cs w')) (h : GoodY P R ro n B w0 g0 Q b k cs r' a' w') : GoodY P R ro n B w0 g0 Q b k cs r a w := by
  obtain ⟨e, a2, w2, h1, h2⟩ := h
  exact ⟨e, a2, w2, h1, .of_steps hs h2⟩

def regY (P : Program) {l : Nat} {L : List (List AV)} {γ : Type} (R : Rounds P l L γ) (ro : Cf) (n : Nat) (B : Base) (w0 : World) (g0 : γ) (Q : Exit → St → Nat × Bool → Prop) (b : Frame) (k : List Item) (cs : List Frame) (r : List Itm) : Exit → Act → World → Prop
  | .normal, a, w => GoodY P R ro n B w0 g0 Q b k cs r a w
  | .panic ch, a, w => ∃ ρ al s g, YRep R n B w0 g0 ρ al s a w g ∧ Q (.panic ch) s (R.pos g, R.live g)
  | _, _, _ => False

theorem yRun_good {R : Rounds P l L γ} {B : Base} {w0 : World} {g0 : γ} {b : Frame} {k : List Item} {cs : List Frame} (hpl : B.pl.length = ro.K) (hb : b.roundOf = ro.ro) : ∀ (f : Nat),
    (∀ (r : List Itm) (s : St) (y : Nat × Bool) (ρ : Nat → Loc) (al : Al) (a : Act) (w : World) (g : γ), noO r = true → YRep R n B w0 g0 ρ al s a w g → R.pos g = y.1 → R.live g = y.2 → yRun P ctx l L ro n f r s y Q → GoodY P R ro n B w0 g0 Q b k cs r a w) ∧
    (∀ (all t : List Oper) (r : List Itm) (s : St) (y : Nat × Bool) (ρ : Nat → Loc) (al : Al) (a : Act) (w : World) (g : γ), noO r = true → YRep R n B w0 g0 ρ al s a w g → R.pos g = y.1 → R.live g = y.2 → yRun P ctx l L ro n f (.o all t :: r) s y Q → wpListIn (Fw ro) 0 P all.toArray (regY P R ro n B w0 g0 Q b k cs r) t a w)
  | 0 => ⟨fun r s y ρ al a w g _ _ _ _ h => by simp only [yRun] at h, fun all t r s y ρ al a w g _ _ _ _ h => by simp only [yRun] at h⟩
  | f + 1 => by
    obtain ⟨ih1, ih2⟩ := yRun_good (R := R) (B := B) (w0 := w0) (g0 := g0) (b := b) (k := k) (cs := cs) hpl hb f
    refine ⟨fun r s y ρ al a w g hr H p1 p2 h => ?_, fun all t r s y ρ al a w g hr H p1 p2 h => ?_⟩
    · have pe : (R.pos g, R.live g) = y := by rw [p1, p2]
      cases r with
      | nil => exact ⟨.normal, a, w, ⟨ρ, al, s, g, H, by rw [pe]; simpa only [yRun] using h⟩, .refl _⟩
      | cons x r =>
        cases x with
        | o _ _ => cases hr
        | b id => exact GoodY.step (one_fw stepR_inBlock) (ih1 r s y ρ al a w g hr H p1 p2 (by simpa only [yRun] using h))
        | c x =>
          have viaSW : SWy P l L ro n x s y (fun e s' y' => match e with
              | .normal => yRun P ctx l L ro n f r s' y' Q
              | .exit id => match popTo id r with
                | some r' => yRun P ctx l L ro n f r' s' y' Q
                | none => Q (.exit id) s' y'
              | e => Q e s' y') → GoodY P R ro n B w0 g0 Q b k cs (.c x :: r) a w := by
            intro hsw
            obtain ⟨e, a', w', ⟨ρ', al', s', g', H', hq⟩, harr⟩ := hsw γ R B w0 g0 ρ al a w g hpl H p1 p2 b (r.map Itm.item ++ k) cs hb trivial (fw_room _ _)
            cases e with
            | normal => exact GoodY.step harr (ih1 r s' _ ρ' al' a' w' g' hr H' rfl rfl hq)
            | exit id =>
              have hx := exitTo_pop (id := id) k (r := r) hr
              simp only at hq
              cases hp : popTo id r with
              | some r' =>
                rw [hp] at hq hx
                exact GoodY.step (harr.1 _ hx) (ih1 r' s' _ ρ' al' a' w' g' (popTo_noO hr hp) H' rfl rfl hq)
              | none =>
                rw [hp] at hq hx
                exact ⟨.exit id, a', w', ⟨ρ', al', s', g', H', hq⟩, fun k' hk => harr.1 k' (hx.trans hk), fun hro hk => harr.2 hro (hx.trans hk)⟩
            | goto l => exact ⟨.goto l, a', w', ⟨ρ', al', s', g', H', hq⟩, fun k' hk => harr.1 k' ((gotoIn_pop k hr).trans hk), fun hro hk => harr.2 hro ((gotoIn_pop k hr).trans hk)⟩
            | ret => exact ⟨.ret, a', w', ⟨ρ', al', s', g', H', hq⟩, harr⟩
            | panic ch => exact ⟨.panic ch, a', w', ⟨ρ', al', s', g', H', hq⟩, harr⟩
            | outgrown => exact ⟨.outgrown, a', w', ⟨ρ', al', s', g', H', hq⟩, harr⟩
          cases x with
          | skip => exact GoodY.step (one_fw stepR_skip) (ih1 r s y ρ al a w g hr H p1 p2 (by simpa only [yRun] using h))
          | label l => exact GoodY.step (one_fw stepR_label) (ih1 r s y ρ al a w g hr H p1 p2 (by simpa only [yRun] using h))
          | ret => exact ⟨.ret, a, w, ⟨ρ, al, s, g, H, by rw [pe]; simpa only [yRun] using h⟩, fun hn => ⟨_, one_fw (stepR_ret hn)⟩, fun _ => ⟨_, .refl _⟩⟩
          | exit id =>
            have hx := exitTo_pop (id := id) k (r := r) hr
            simp only [yRun] at h
            cases hp : popTo id r with
            | some r' =>
              rw [hp] at h hx
              exact GoodY.step (one_fw (stepR_exit hx)) (ih1 r' s y ρ al a w g (popTo_noO hr hp) H p1 p2 h)
            | none =>
              rw [hp] at h hx
              exact ⟨.exit id, a, w, ⟨ρ, al, s, g, H, by rw [pe]; exact h⟩, fun k' hk => one_fw (stepR_exit (hx.trans hk)), fun _ hk => ⟨_, hx.trans hk, .refl _⟩⟩
          | seq x z => exact GoodY.step (r' := .c x :: .c z :: r) (one_fw stepR_seq) (ih1 _ s y ρ al a w g hr H p1 p2 (by simpa only [yRun] using h))
          | block id x => exact GoodY.step (r' := .c x :: .b id :: r) (one_fw stepR_block) (ih1 _ s y ρ al a w g hr H p1 p2 (by simpa only [yRun] using h))
          | cond c x z =>
            simp only [yRun] at h
            split at h
            case h_2 => exact h.elim
            rename_i q hq
            have hv := evT_rep H.r.t c
            rw [hq] at hv
            have hv' : a.eval c = .bool q := hv
            cases q with
            | true => exact GoodY.step (r' := .c x :: r) (one_fw (stepR_cond hv')) (ih1 _ s y ρ al a w g hr H p1 p2 (h.1 rfl))
            | false => exact GoodY.step (r' := .c z :: r) (one_fw (stepR_cond hv')) (ih1 _ s y ρ al a w g hr H p1 p2 (h.2 rfl))
          | region id ops draw =>
            cases draw with
            | true => exact viaSW (by simpa only [yRun] using h)
            | false =>
              have hl := ih2 ops.toList ops.toList r s y ρ al a w g hr H p1 p2 (by simpa only [yRun] using h)
              rw [Array.toArray_toList] at hl
              obtain ⟨e, a', w', hq, harr⟩ := wpIn_region_list (id := id) hl b (r.map Itm.item ++ k) cs hb trivial (fw_room _ _)
              cases e with
              | normal => exact GoodY.step (r := .c (.region id ops false) :: r) harr hq
              | panic ch => exact ⟨.panic ch, a', w', hq, harr⟩
              | exit _ => exact hq.elim
              | goto _ => exact hq.elim
              | ret => exact hq.elim
              | outgrown => exact hq.elim
          | loop x => exact viaSW (by simpa only [yRun] using h)
          | rangeFunc _ _ _ _ => exact viaSW (by simpa only [yRun] using h)
          | scope x => exact viaSW (by simpa only [yRun] using h)
          | goto l => exact viaSW (by simpa only [yRun] using h)
          | refuse y => exact viaSW (by simpa only [yRun] using h)
    · have pe : (R.pos g, R.live g) = y := by rw [p1, p2]
      cases t with
      | nil => exact ih1 r s y ρ al a w g hr H p1 p2 (by simpa only [yRun] using h)
      | cons o t =>
        unfold wpListIn
        simp only [yRun] at h
        split at h
        · rename_i hg
          rw [if_pos (by simp [Region.wanted, hg])]
          exact yStep_wp H p1 p2 h (fun s' y' ρ' al' a' w' g' H' q1 q2 hk => ih2 all t r s' y' ρ' al' a' w' g' hr H' q1 q2 hk) (fun ch s' ρ' al' w' H' hq => ⟨ρ', al', s', g, H', by rw [pe]; exact hq⟩)
        · rename_i j want hg
          split at h
          case h_3 => exact h.elim
          case h_2 =>
            rename_i hq
            rw [if_neg (by simp [Region.wanted, hg, gAt_none H.r.t hq])]
            refine ⟨fun _ _ => trivial, ih2 all t r ⟨s.nx, putT s.t o.dst (.s (.l (.v (.tuple #[])))), s.h⟩ y ρ al _ w g hr ?_ p1 p2 h.2⟩
            exact ⟨⟨put_size.trans H.r.size, (by rw [put_defers]; exact H.r.defers), H.r.t.putT H.r.size h.1 undef_rep, H.r.w, H.r.al⟩, H.own, H.J, H.N, H.dep, H.ownN, H.mem, H.memN, H.S, (by rw [put_defers]; exact H.mks), H.fol, H.folm⟩
          rename_i q hq
          obtain ⟨h1, h2, h3⟩ := h
          have hy := gAt_yield H.r.t H.r.size hq
          have hset := setG_rep H.r.t hq
          by_cases hqw : q = want
          · rw [if_pos (by simp [Region.wanted, hg, hy, hqw])]
            have h4 := h2 hqw
            rw [hqw] at hset
            exact yStep_wp (s := ⟨s.nx, setG all s.t j want, s.h⟩) ⟨⟨H.r.size, H.r.defers, hset, H.r.w, H.r.al⟩, H.own, H.J, H.N, H.dep, H.ownN, H.mem, H.memN, H.S, H.mks, H.fol, H.folm⟩ p1 p2 h4 (fun s' y' ρ' al' a' w' g' H' q1 q2 hk => ih2 all t r s' y' ρ' al' a' w' g' hr H' q1 q2 hk) (fun ch s' ρ' al' w' H' hq => ⟨ρ', al', s', g, H', by rw [pe]; exact hq⟩)
          · rw [if_neg (by simp [Region.wanted, hg, hy, hqw])]
            have hqn : q = !want := by cases q <;> cases want <;> simp_all
            rw [hqn] at hset
            refine ⟨fun _ _ => trivial, ih2 all t r ⟨s.nx, putT (setG all s.t j (!want)) o.dst (.s (.l (.v (.tuple #[])))), s.h⟩ y ρ al _ w g hr ?_ p1 p2 (h3 hqn)⟩
            exact ⟨⟨put_size.trans H.r.size, (by rw [put_defers]; exact H.r.defers), hset.putT H.r.size h1 undef_rep, H.r.w, H.r.al⟩, H.own, H.J, H.N, H.dep, H.ownN, H.mem, H.memN, H.S, (by rw [put_defers]; exact H.mks), H.fol, H.folm⟩

theorem yRun_sound {c : Code} {y : Nat × Bool} (f : Nat) (h : yRun P ctx l L ro n f [.c c] s y Q) : SWy P l L ro n c s y Q := fun γ R B w0 g0 ρ al a w g hpl H h1 h2 b k cs hb _ _ => by
  obtain ⟨e, a', w', k1, k2⟩ := (yRun_good (R := R) hpl hb f).1 [.c c] s y ρ al a w g rfl H h1 h2 h
  exact ⟨e, a', w', k1, k2⟩

end

/-! ### Equations for the evaluation -/
section
variable {P : Program} {ctx : Ctx P} {l : Nat} {L : List (List AV)} {ro : Cf} {n : Nat} {s : St} {y : Nat × Bool} {Q : Exit → St → Nat × Bool → Prop} {K : St → Nat × Bool → Prop} {f : Nat} {r : List Itm}

def yY (L : List (List AV)) (n : Nat) (d : Option Tmp) (s : St) (y : Nat × Bool) (K : St → Nat × Bool → Prop) : Option (List AV) → Prop
  | some As => dstOk n d = true ∧ y.2 = true ∧ L[y.1]? = some As ∧ As.all (·.pin 0) = true ∧
      K ⟨s.nx, putT s.t d (.s (.l (.v (.bool true)))), s.h⟩ (y.1 + 1, true) ∧ K ⟨s.nx, putT s.t d (.s (.l (.v (.bool false)))), s.h⟩ (y.1 + 1, false)
  | none => False
def yO (n : Nat) (d : Option Tmp) (s : St) (y : Nat × Bool) (K : St → Nat × Bool → Prop) (rest : Prop) : Option Res → Prop
  | some R => dstOk n d = true ∧ R.ob ∧ ownL R.E = true ∧ K ⟨s.nx + 16, putT s.t d R.r, R.E ++ s.h⟩ y
  | none => rest
def yP (s : St) (y : Nat × Bool) (Q : Exit → St → Nat × Bool → Prop) (rest : Prop) : Option (Prop × Value × Heap) → Prop
  | some (ob, x, E) => ob ∧ ownL E = true ∧ Q (.panic [{ v := x, recovered := false }]) ⟨s.nx + 16, s.t, E ++ s.h⟩ y
  | none => rest
theorem yStep_eq {d : Option Tmp} {op : Op} : yStep P ctx l L n d op s y Q K = yP s y Q (yO n d s y K (yY L n d s y K (yOp l op (evT s.t))) (aOp P ctx s.nx op (evT s.t) s.h)) (aPan P ctx s.nx op (evT s.t) s.h) := by
  simp only [yStep, yP, yO, yY]
theorem yP_none {rest : Prop} : yP s y Q rest none = rest := rfl
theorem yP_some {rest : Prop} {ob : Prop} {x : Value} {E : Heap} : yP s y Q rest (some (ob, x, E)) = (ob ∧ ownL E = true ∧ Q (.panic [{ v := x, recovered := false }]) ⟨s.nx + 16, s.t, E ++ s.h⟩ y) := rfl
theorem yO_none {d : Option Tmp} {rest : Prop} : yO n d s y K rest none = rest := rfl
theorem yO_some {d : Option Tmp} {rest : Prop} {ob : Prop} {x : AV} {E : Heap} : yO n d s y K rest (some ⟨ob, x, E⟩) = (dstOk n d = true ∧ ob ∧ ownL E = true ∧ K ⟨s.nx + 16, putT s.t d x, E ++ s.h⟩ y) := rfl
theorem yY_some {d : Option Tmp} {As : List AV} : yY L n d s y K (some As) = (dstOk n d = true ∧ y.2 = true ∧ L[y.1]? = some As ∧ As.all (·.pin 0) = true ∧ K ⟨s.nx, putT s.t d (.s (.l (.v (.bool true)))), s.h⟩ (y.1 + 1, true) ∧ K ⟨s.nx, putT s.t d (.s (.l (.v (.bool false)))), s.h⟩ (y.1 + 1, false)) := rfl

/-- a guarded operation -/
def yGd (P : Program) (ctx : Ctx P) (l : Nat) (L : List (List AV)) (ro : Cf) (n f : Nat) (all : List Oper) (o : Oper) (t : List Oper) (r : List Itm) (s : St) (y : Nat × Bool) (Q : Exit → St → Nat × Bool → Prop) (j : Nat) (want : Bool) : AV → Prop
  | .s (.l (.v (.bool q))) => dstOk n o.dst = true ∧
      (q = want → yStep P ctx l L n o.dst o.op ⟨s.nx, setG all s.t j want, s.h⟩ y Q fun s' y' => yRun P ctx l L ro n f (.o all t :: r) s' y' Q) ∧
      (q = !want → yRun P ctx l L ro n f (.o all t :: r) ⟨s.nx, putT (setG all s.t j (!want)) o.dst (.s (.l (.v (.tuple #[])))), s.h⟩ y Q)
  | .s (.l (.v (.tuple ⟨[]⟩))) => dstOk n o.dst = true ∧ yRun P ctx l L ro n f (.o all t :: r) ⟨s.nx, putT s.t o.dst (.s (.l (.v (.tuple #[])))), s.h⟩ y Q
  | _ => False
def yBr (P : Program) (ctx : Ctx P) (l : Nat) (L : List (List AV)) (ro : Cf) (n f : Nat) (x z : Code) (r : List Itm) (s : St) (y : Nat × Bool) (Q : Exit → St → Nat × Bool → Prop) : AV → Prop
  | .s (.l (.v (.bool q))) => (q = true → yRun P ctx l L ro n f (.c x :: r) s y Q) ∧ (q = false → yRun P ctx l L ro n f (.c z :: r) s y Q)
  | _ => False
def yEx (P : Program) (ctx : Ctx P) (l : Nat) (L : List (List AV)) (ro : Cf) (n f id : Nat) (s : St) (y : Nat × Bool) (Q : Exit → St → Nat × Bool → Prop) : Option (List Itm) → Prop
  | some r' => yRun P ctx l L ro n f r' s y Q
  | none => Q (.exit id) s y
def afterY (P : Program) (ctx : Ctx P) (l : Nat) (L : List (List AV)) (ro : Cf) (n f : Nat) (r : List Itm) (Q : Exit → St → Nat × Bool → Prop) : Exit → St → Nat × Bool → Prop
  | .normal, s, y => yRun P ctx l L ro n f r s y Q
  | .exit id, s, y => yEx P ctx l L ro n f id s y Q (popTo id r)
  | e, s, y => Q e s y

theorem yRun_nil : yRun P ctx l L ro n (f + 1) [] s y Q = Q .normal s y := by simp only [yRun]
theorem yRun_b {id : Nat} : yRun P ctx l L ro n (f + 1) (.b id :: r) s y Q = yRun P ctx l L ro n f r s y Q := by simp only [yRun]
theorem yRun_o0 {all : List Oper} : yRun P ctx l L ro n (f + 1) (.o all [] :: r) s y Q = yRun P ctx l L ro n f r s y Q := by simp only [yRun]
theorem yRun_o1 {all t : List Oper} {d : Option Tmp} {op : Op} {ty : TypeId} {p : String} {af : Array Edge} : yRun P ctx l L ro n (f + 1) (.o all (⟨d, op, ty, p, af, none⟩ :: t) :: r) s y Q = yStep P ctx l L n d op s y Q fun s' y' => yRun P ctx l L ro n f (.o all t :: r) s' y' Q := by
  simp only [yRun]
theorem yRun_o2 {all t : List Oper} {d : Option Tmp} {op : Op} {ty : TypeId} {p : String} {af : Array Edge} {j : Nat} {want : Bool} : yRun P ctx l L ro n (f + 1) (.o all (⟨d, op, ty, p, af, some (j, want)⟩ :: t) :: r) s y Q = yGd P ctx l L ro n f all ⟨d, op, ty, p, af, some (j, want)⟩ t r s y Q j want (gAt all s.t j) := by
  simp only [yRun, yGd]
theorem yRun_skip : yRun P ctx l L ro n (f + 1) (.c .skip :: r) s y Q = yRun P ctx l L ro n f r s y Q := by simp only [yRun]
theorem yRun_label {i : Nat} : yRun P ctx l L ro n (f + 1) (.c (.label i) :: r) s y Q = yRun P ctx l L ro n f r s y Q := by simp only [yRun]
theorem yRun_ret : yRun P ctx l L ro n (f + 1) (.c .ret :: r) s y Q = Q .ret s y := by simp only [yRun]
theorem yRun_seq {x z : Code} : yRun P ctx l L ro n (f + 1) (.c (.seq x z) :: r) s y Q = yRun P ctx l L ro n f (.c x :: .c z :: r) s y Q := by simp only [yRun]
theorem yRun_block {id : Nat} {x : Code} : yRun P ctx l L ro n (f + 1) (.c (.block id x) :: r) s y Q = yRun P ctx l L ro n f (.c x :: .b id :: r) s y Q := by simp only [yRun]
theorem yRun_cond {c : Operand} {x z : Code} : yRun P ctx l L ro n (f + 1) (.c (.cond c x z) :: r) s y Q = yBr P ctx l L ro n f x z r s y Q (evT s.t c) := by
  simp only [yRun, yBr]
theorem yRun_region {id : Nat} {t : List Oper} : yRun P ctx l L ro n (f + 1) (.c (.region id t.toArray false) :: r) s y Q = yRun P ctx l L ro n f (.o t t :: r) s y Q := by simp only [yRun, List.toList_toArray]
theorem yRun_exit {id : Nat} : yRun P ctx l L ro n (f + 1) (.c (.exit id) :: r) s y Q = yEx P ctx l L ro n f id s y Q (popTo id r) := by
  simp only [yRun, yEx]
theorem yRun_loop {x : Code} : yRun P ctx l L ro n (f + 1) (.c (.loop x) :: r) s y Q = SWy P l L ro n (.loop x) s y (afterY P ctx l L ro n f r Q) := by
  simp only [yRun]
  congr 1
  funext e s' y'
  cases e <;> simp only [afterY, yEx]
theorem yRun_draw {id : Nat} {ops : Array Oper} : yRun P ctx l L ro n (f + 1) (.c (.region id ops true) :: r) s y Q = SWy P l L ro n (.region id ops true) s y (afterY P ctx l L ro n f r Q) := by
  simp only [yRun]
  congr 1
  funext e s' y'
  cases e <;> simp only [afterY, yEx]
theorem yRun_range {x : Operand} {ps : Array Tmp} {as' bo : Code} : yRun P ctx l L ro n (f + 1) (.c (.rangeFunc x ps as' bo) :: r) s y Q = SWy P l L ro n (.rangeFunc x ps as' bo) s y (afterY P ctx l L ro n f r Q) := by
  simp only [yRun]
  congr 1
  funext e s' y'
  cases e <;> simp only [afterY, yEx]
theorem afterY_normal : afterY P ctx l L ro n f r Q .normal s y = yRun P ctx l L ro n f r s y Q := rfl
theorem afterY_exit {id : Nat} : afterY P ctx l L ro n f r Q (.exit id) s y = yEx P ctx l L ro n f id s y Q (popTo id r) := rfl
theorem afterY_ret : afterY P ctx l L ro n f r Q .ret s y = Q .ret s y := rfl
theorem yEx_some {id : Nat} {r' : List Itm} : yEx P ctx l L ro n f id s y Q (some r') = yRun P ctx l L ro n f r' s y Q := rfl
theorem yEx_none {id : Nat} : yEx P ctx l L ro n f id s y Q none = Q (.exit id) s y := rfl
theorem yBr_true {x z : Code} : yBr P ctx l L ro n f x z r s y Q (.s (.l (.v (.bool true)))) = yRun P ctx l L ro n f (.c x :: r) s y Q := by simp [yBr]
theorem yBr_false {x z : Code} : yBr P ctx l L ro n f x z r s y Q (.s (.l (.v (.bool false)))) = yRun P ctx l L ro n f (.c z :: r) s y Q := by simp [yBr]
theorem yBr_dec {x z : Code} {p : Prop} [Decidable p] : yBr P ctx l L ro n f x z r s y Q (.s (.l (.v (.bool (decide p))))) = ((p → yRun P ctx l L ro n f (.c x :: r) s y Q) ∧ (¬ p → yRun P ctx l L ro n f (.c z :: r) s y Q)) := by simp [yBr]
theorem yBr_not {x z : Code} {q : Bool} : yBr P ctx l L ro n f x z r s y Q (.s (.l (.v (.bool (!q))))) = yBr P ctx l L ro n f z x r s y Q (.s (.l (.v (.bool q)))) := by
  simp only [yBr, Bool.not_eq_true', Bool.not_eq_false']
  exact propext And.comm
theorem yBr_beq {x z : Code} {u v : Int} : yBr P ctx l L ro n f x z r s y Q (.s (.l (.v (.bool (u == v))))) = ((u = v → yRun P ctx l L ro n f (.c x :: r) s y Q) ∧ (¬ u = v → yRun P ctx l L ro n f (.c z :: r) s y Q)) := by simp [yBr]
theorem yBr_bne {x z : Code} {u v : Int} : yBr P ctx l L ro n f x z r s y Q (.s (.l (.v (.bool (u != v))))) = ((u = v → yRun P ctx l L ro n f (.c z :: r) s y Q) ∧ (¬ u = v → yRun P ctx l L ro n f (.c x :: r) s y Q)) := by
  simp [yBr]
  exact And.comm
section
variable {all t : List Oper} {o : Oper} {j : Nat} {want : Bool}
theorem yGd_yes (h : dstOk n o.dst = true) : yGd P ctx l L ro n f all o t r s y Q j want (.s (.l (.v (.bool want)))) = yStep P ctx l L n o.dst o.op ⟨s.nx, setG all s.t j want, s.h⟩ y Q fun s' y' => yRun P ctx l L ro n f (.o all t :: r) s' y' Q := by
  cases want <;> simp [yGd, h]
theorem yGd_tf (h : dstOk n o.dst = true) : yGd P ctx l L ro n f all o t r s y Q j true (.s (.l (.v (.bool false)))) = yRun P ctx l L ro n f (.o all t :: r) ⟨s.nx, putT (setG all s.t j false) o.dst (.s (.l (.v (.tuple #[])))), s.h⟩ y Q := by simp [yGd, h]
theorem yGd_ft (h : dstOk n o.dst = true) : yGd P ctx l L ro n f all o t r s y Q j false (.s (.l (.v (.bool true)))) = yRun P ctx l L ro n f (.o all t :: r) ⟨s.nx, putT (setG all s.t j true) o.dst (.s (.l (.v (.tuple #[])))), s.h⟩ y Q := by simp [yGd, h]
theorem yGd_skip (h : dstOk n o.dst = true) : yGd P ctx l L ro n f all o t r s y Q j want (.s (.l (.v (.tuple #[])))) = yRun P ctx l L ro n f (.o all t :: r) ⟨s.nx, putT s.t o.dst (.s (.l (.v (.tuple #[])))), s.h⟩ y Q := by simp [yGd, h]
theorem yGd_dec_t {p : Prop} [Decidable p] (h : dstOk n o.dst = true) : yGd P ctx l L ro n f all o t r s y Q j want (.s (.l (.v (.bool (decide p))))) = ((p → yGd P ctx l L ro n f all o t r s y Q j want (.s (.l (.v (.bool true))))) ∧ (¬ p → yGd P ctx l L ro n f all o t r s y Q j want (.s (.l (.v (.bool false)))))) := by
  by_cases hp : p <;> simp [hp]
theorem yGd_beq {u v : Int} (h : dstOk n o.dst = true) : yGd P ctx l L ro n f all o t r s y Q j want (.s (.l (.v (.bool (u == v))))) = ((u = v → yGd P ctx l L ro n f all o t r s y Q j want (.s (.l (.v (.bool true))))) ∧ (¬ u = v → yGd P ctx l L ro n f all o t r s y Q j want (.s (.l (.v (.bool false)))))) := by
  by_cases hp : u = v
  · have e : (u == v) = true := by simp [hp]
    rw [e]; simp [hp]
  · have e : (u == v) = false := by simp [hp]
    rw [e]; simp [hp]
theorem yGd_bne {u v : Int} (h : dstOk n o.dst = true) : yGd P ctx l L ro n f all o t r s y Q j want (.s (.l (.v (.bool (u != v))))) = ((u = v → yGd P ctx l L ro n f all o t r s y Q j want (.s (.l (.v (.bool false))))) ∧ (¬ u = v → yGd P ctx l L ro n f all o t r s y Q j want (.s (.l (.v (.bool true)))))) := by
  by_cases hp : u = v
  · have e : (u != v) = false := by simp [hp]
    rw [e]; simp [hp]
  · have e : (u != v) = true := by simp [hp]
    rw [e]; simp [hp]
theorem yGd_not {q : Bool} (h : dstOk n o.dst = true) : yGd P ctx l L ro n f all o t r s y Q j want (.s (.l (.v (.bool (!q))))) = ((q = true → yGd P ctx l L ro n f all o t r s y Q j want (.s (.l (.v (.bool false))))) ∧ (q = false → yGd P ctx l L ro n f all o t r s y Q j want (.s (.l (.v (.bool true)))))) := by
  cases q <;> simp
end

/-- a round's end in a loop of an iterator -/
def roundY (ro : Cf) {ι : Type} (inv : ι → Prop) (I : ι → St) (Y : ι → Nat × Bool) (m : ι → Nat) (i : ι) (Q : Exit → St → Nat × Bool → Prop) : Exit → St → Nat × Bool → Prop
  | .normal, s, y => ∃ j, inv j ∧ m j < m i ∧ y = Y j ∧ Wk ro s (I j)
  | e, s, y => Q e s y
theorem roundY_normal {ι : Type} {inv : ι → Prop} {I : ι → St} {Y : ι → Nat × Bool} {m : ι → Nat} {i : ι} : roundY ro inv I Y m i Q .normal s y = ∃ j, inv j ∧ m j < m i ∧ y = Y j ∧ Wk ro s (I j) := rfl
theorem roundY_exit {ι : Type} {inv : ι → Prop} {I : ι → St} {Y : ι → Nat × Bool} {m : ι → Nat} {i : ι} {id : Nat} : roundY ro inv I Y m i Q (.exit id) s y = Q (.exit id) s y := rfl
theorem roundY_ret {ι : Type} {inv : ι → Prop} {I : ι → St} {Y : ι → Nat × Bool} {m : ι → Nat} {i : ι} : roundY ro inv I Y m i Q .ret s y = Q .ret s y := rfl

theorem swy_loop {ι : Type} {c : Code} (inv : ι → Prop) (I : ι → St) (Y : ι → Nat × Bool) (m : ι → Nat) (i0 : ι) (h0 : inv i0) (hy0 : y = Y i0) (hown : ∀ i, inv i → ∀ b k, hget (I i).h b = some k → k.own = true) (start : Wk ro s (I i0)) (round : ∀ i, inv i → SWy P l L ro n c (I i) (Y i) (roundY ro inv I Y m i Q)) : SWy P l L ro n (.loop c) s y Q := by
  intro γ R B w0 g0 ρ al a w g hpl H p1 p2
  classical
  let Jn : Act → World → Prop := fun a w => ∃ i ρ al g, inv i ∧ YRep R n B w0 g0 ρ al (I i) a w g ∧ (R.pos g, R.live g) = Y i
  let μ : Act → World → Nat := fun a w => if hq : ∃ k, ∃ i ρ al g, m i = k ∧ inv i ∧ YRep R n B w0 g0 ρ al (I i) a w g ∧ (R.pos g, R.live g) = Y i then (exists_least hq).choose else 0
  obtain ⟨ρ0, al0, H0⟩ := H.wk hpl start (hown i0 h0)
  refine wpIn_loop Jn μ ⟨i0, ρ0, al0, g, h0, H0, by rw [p1, p2, ← hy0]⟩ ?_
  rintro a1 w1 ⟨i1, ρ1', al1', g1, hi1, H1, e1⟩
  have hq : ∃ k, ∃ i ρ al g, m i = k ∧ inv i ∧ YRep R n B w0 g0 ρ al (I i) a1 w1 g ∧ (R.pos g, R.live g) = Y i := ⟨_, i1, ρ1', al1', g1, rfl, hi1, H1, e1⟩
  have hμ : μ a1 w1 = (exists_least hq).choose := dif_pos hq
  obtain ⟨i, ρi, ali, gi, hmi, hii, Hi, ei⟩ := (exists_least hq).choose_spec.1
  refine wpIn_mono (round i hii γ R B w0 g0 ρi ali a1 w1 gi hpl Hi (congrArg Prod.fst ei) (congrArg Prod.snd ei)) ?_
  rintro e a2 w2 ⟨ρ2, al2, s2, g2, H2, q⟩
  cases e with
  | normal =>
    obtain ⟨j, hij, hj, hyj, hwk⟩ := q
    obtain ⟨ρ3, al3, H3⟩ := H2.wk hpl hwk (hown j hij)
    refine ⟨⟨j, ρ3, al3, g2, hij, H3, hyj⟩, ?_⟩
    have hq2 : ∃ k, ∃ i ρ al g, m i = k ∧ inv i ∧ YRep R n B w0 g0 ρ al (I i) a2 w2 g ∧ (R.pos g, R.live g) = Y i := ⟨_, j, ρ3, al3, g2, rfl, hij, H3, hyj⟩
    have h1 : μ a2 w2 = (exists_least hq2).choose := dif_pos hq2
    have h2 : (exists_least hq2).choose ≤ m j := (exists_least hq2).choose_spec.2 _ ⟨j, ρ3, al3, g2, rfl, hij, H3, hyj⟩
    rw [h1, hμ, ← hmi]
    omega
  | _ => exact ⟨ρ2, al2, s2, g2, H2, q⟩

end

end Go.Proofs.YtcdbldakjepjiaaDoor
