/- The value logic, computed: regions that draw their order. No program in sight. -/
import Derived.Test.YtpdjaabjfhjppaaGreatDoorZ7
set_option linter.unusedVariables false
set_option linter.unusedSimpArgs false
namespace Go.Proofs.YtpdjaabjfhjppaaGreatDoor
open Go.RowKit
set_option maxRecDepth 100000

noncomputable section
def eOkR (ms : Ms) (nx i : Nat) (E : Heap) : Bool := List.rec (motive := fun _ => Bool) true (fun a _ ih => cond (Nat.blt a.1 (nx + 16 * (i + 1)) && (Nat.ble (nx + 16 * i) a.1 || memR ms.ms i || memR (declOf ms.fs i) a.1) && !memR (declOf ms.hs i) a.1) ih false) E
def HpR (h : Heap) (rs : List Ent) : Heap := List.rec (motive := fun _ => Heap → Heap) (fun h => h) (fun e _ ih h => ih (hsetsR h e.E)) rs h
section
variable (P : Program) (call : Cl) (n : Nat) (ms : Ms) (nx : Nat) (h0 : Heap) (all : List Oper)
abbrev Dk := Nat → List Nat → List Ent → Tmps → Cx
def aftD (d : Option Tmp) (i : Nat) (acc : List Nat) (rs : List Ent) (T : Tmps) (ih : Dk) (x : CO) : Cx := match x with
  | .val r E => cond (dstR n d && eOkR ms nx i E) (ih (i + 1) acc (rs ++ [⟨d, r, E⟩]) (putR T d r)) (.no 70)
  | .pan _ _ => .no 71
  | .no e => .no e
def doD (o : Oper) (i m : Nat) (acc : List Nat) (rs : List Ent) (T : Tmps) (ih : Dk) : Cx := aftD n ms nx o.dst i (acc ++ [m]) rs T ih (cOp P call (nx + 16 * i) o.op (evR T) (veil (declOf ms.hs i) (Hp (bit m) rs 0 h0)))
def skD (o : Oper) (i m : Nat) (acc : List Nat) (rs : List Ent) (T : Tmps) (ih : Dk) : Cx := cond (dstR n o.dst) (ih (i + 1) (acc ++ [m]) (rs ++ [⟨o.dst, .s (.l (.v (.tuple #[]))), []⟩]) (putR T o.dst (.s (.l (.v (.tuple #[])))))) (.no 72)
def gdVD (o : Oper) (i m : Nat) (acc : List Nat) (rs : List Ent) (T : Tmps) (ih : Dk) (want : Bool) (v : Value) : Cx := match v with
  | .bool q => cond (q == want) (doD P call n ms nx h0 o i m acc rs T ih) (skD n o i m acc rs T ih)
  | .tuple ⟨[]⟩ => skD n o i m acc rs T ih
  | _ => .no 73
def gdAD (o : Oper) (i m : Nat) (acc : List Nat) (rs : List Ent) (T : Tmps) (ih : Dk) (want : Bool) (a : AV) : Cx := match a with
  | .s (.l (.v v)) => gdVD P call n ms nx h0 o i m acc rs T ih want v
  | _ => .no 73
def gdD (o : Oper) (i m : Nat) (acc : List Nat) (rs : List Ent) (T : Tmps) (ih : Dk) (g : Option (Nat × Bool)) : Cx := match g with
  | none => doD P call n ms nx h0 o i m acc rs T ih
  | some g => gdAD P call n ms nx h0 o i m acc rs T ih g.2 (gAtR all T g.1)
def cDr (l : List Oper) : Dk := List.rec (motive := fun _ => Dk) (fun i _ rs T => .go .norm ⟨nx + 16 * i, T, HpR h0 rs⟩)
  (fun o _ ih i acc rs T => gdD P call n ms nx h0 all o i (befOf acc o.after.toList) acc rs T ih o.guard) l
end
end

section
variable {P : Program} {ctx : Ctx P} {call : Cl} {n : Nat} {ms : Ms} {nx : Nat} {h0 : Heap} {all : List Oper}
theorem eOkR_ok {i : Nat} : ∀ {E : Heap}, eOkR ms nx i E = true → eOk ms nx i E
  | [], _ => trivial
  | (b, x) :: E, h => by
    have h : cond (Nat.blt b (nx + 16 * (i + 1)) && (Nat.ble (nx + 16 * i) b || memR ms.ms i || memR (declOf ms.fs i) b) && !memR (declOf ms.hs i) b) (eOkR ms nx i E) false = true := h
    cases hc : (Nat.blt b (nx + 16 * (i + 1)) && (Nat.ble (nx + 16 * i) b || memR ms.ms i || memR (declOf ms.fs i) b) && !memR (declOf ms.hs i) b)
    · rw [hc] at h; cases h
    · rw [hc] at h
      simp only [Bool.and_eq_true, Bool.or_eq_true, Bool.not_eq_true'] at hc
      obtain ⟨⟨c1, c2⟩, c3⟩ := hc
      refine ⟨by simpa [Nat.blt_eq] using c1, ⟨?_, fun hm => ?_⟩, eOkR_ok h⟩
      · rcases c2 with (c2 | c2) | c2
        · exact .inl (Nat.le_of_ble_eq_true c2)
        · exact .inr (.inl (memR_iff.1 c2))
        · exact .inr (.inr (memR_iff.1 c2))
      · rw [memR_iff.2 hm] at c3; cases c3
theorem hget_cong {E h h' : Heap} (hs : ∀ b, hget h b = hget h' b) (b : Nat) : hget (E ++ h) b = hget (E ++ h') b := by
  induction E with
  | nil => exact hs b
  | cons a E ih =>
    obtain ⟨c, x⟩ := a
    rw [List.cons_append, List.cons_append, hget, hget, ih]
theorem Hp_cong : ∀ {rs : List Ent} {k : Nat} {h h' : Heap}, (∀ b, hget h b = hget h' b) → ∀ b, hget (Hp (fun _ => true) rs k h) b = hget (Hp (fun _ => true) rs k h') b
  | [], _, _, _, hs, b => hs b
  | e :: rs, k, h, h', hs, b => by
    rw [Hp, Hp]
    simp only [if_true]
    exact Hp_cong (fun c => hget_cong hs c) b
theorem HpR_eq : ∀ {rs : List Ent} {k : Nat} {h : Heap} (b : Nat), hget (HpR h rs) b = hget (Hp (fun _ => true) rs k h) b
  | [], _, _, _ => rfl
  | e :: rs, k, h, b => by
    show hget (HpR (hsetsR h e.E) rs) b = _
    rw [HpR_eq (k := k + 1), Hp]
    simp only [if_true]
    exact Hp_cong (fun c => hget_hsets h c e.E) b
/-- two states that say the same -/
def SameS (s1 s' : St) : Prop := s1.nx ≤ s'.nx ∧ (∀ k, tget s'.t k = tget s1.t k) ∧ ∀ b k, hget s'.h b = some k → hget s1.h b = some k
theorem evT_cong {T T0 : Tmps} (h : ∀ k, tget T k = tget T0 k) : evT T = evT T0 := by
  funext x
  cases x with
  | tmp k => exact h k
  | _ => rfl
theorem gAt_cong {T T0 : Tmps} (h : ∀ k, tget T k = tget T0 k) (j : Nat) : gAt all T j = gAt all T0 j := by
  unfold gAt
  cases all[j]? with
  | none => rfl
  | some o =>
    simp only []
    cases o.dst with
    | none => rfl
    | some d => exact h d
theorem tget_putC {T T0 : Tmps} (h : ∀ k, tget T k = tget T0 k) (d : Option Tmp) (r : AV) (k : Nat) : tget (putR T d r) k = tget (putT T0 d r) k := by
  rw [tget_put]
  cases d with
  | none => exact h k
  | some d =>
    show tget ((d, r) :: T) k = tget ((d, r) :: T0) k
    rw [tget, tget, h]
theorem cDr_ok (hc : ClOk ctx call) {kx : XK} {s' : St} : ∀ (l : List Oper) (i : Nat) (acc : List Nat) (rs : List Ent) (T T0 : Tmps), (∀ k, tget T k = tget T0 k) → cDr P call n ms nx h0 all l i acc rs T = .go kx s' → kx = .norm ∧ aDr P ctx n ms nx h0 (fun e s => e = .normal ∧ SameS s s') all l i acc rs T0
  | [], i, acc, rs, T, T0, hT, h => by
    injection h with h1 h2
    subst h1 h2
    refine ⟨rfl, ?_⟩
    simp only [aDr]
    exact ⟨trivial, Nat.le_refl _, hT, fun b k hk => by
      have hk : hget (HpR h0 rs) b = some k := hk
      rw [HpR_eq (k := 0)] at hk
      exact hk⟩
  | o :: l, i, acc, rs, T, T0, hT, h => by
    have h : gdD P call n ms nx h0 all o i (befOf acc o.after.toList) acc rs T (cDr P call n ms nx h0 all l) o.guard = .go kx s' := h
    obtain ⟨m, hm⟩ : ∃ m, befOf acc o.after.toList = m := ⟨_, rfl⟩
    rw [hm] at h
    have doIt : doD P call n ms nx h0 o i m acc rs T (cDr P call n ms nx h0 all l) = .go kx s' → kx = .norm ∧ ∃ R, aOp P ctx (nx + 16 * i) o.op (evT T0) (veil (declOf ms.hs i) (Hp (bit m) rs 0 h0)) = some R ∧ dstOk n o.dst = true ∧ R.ob ∧ eOk ms nx i R.E ∧ aDr P ctx n ms nx h0 (fun e s => e = .normal ∧ SameS s s') all l (i + 1) (acc ++ [m]) (rs ++ [⟨o.dst, R.r, R.E⟩]) (putT T0 o.dst R.r) := by
      intro h
      unfold doD at h
      rw [evR_eq, evT_cong hT] at h
      cases hr : cOp P call (nx + 16 * i) o.op (evT T0) (veil (declOf ms.hs i) (Hp (bit m) rs 0 h0)) with
      | no e => rw [hr] at h; cases h
      | pan v E => rw [hr] at h; cases h
      | val r E =>
        rw [hr] at h
        obtain ⟨R, h1, h2, h3, h4⟩ := cOp_val hc hr
        subst h3 h4
        simp only [aftD] at h
        cases hd : (dstR n o.dst && eOkR ms nx i R.E)
        · rw [hd] at h; cases h
        · rw [hd] at h
          simp only [Bool.and_eq_true] at hd
          obtain ⟨g1, g2⟩ := cDr_ok hc l (i + 1) _ _ _ (putT T0 o.dst R.r) (tget_putC hT _ _) h
          exact ⟨g1, R, h1, dstR_ok hd.1, h2, eOkR_ok hd.2, g2⟩
    have skIt : skD n o i m acc rs T (cDr P call n ms nx h0 all l) = .go kx s' → kx = .norm ∧ dstOk n o.dst = true ∧ aDr P ctx n ms nx h0 (fun e s => e = .normal ∧ SameS s s') all l (i + 1) (acc ++ [m]) (rs ++ [⟨o.dst, .s (.l (.v (.tuple #[]))), []⟩]) (putT T0 o.dst (.s (.l (.v (.tuple #[]))))) := by
      intro h
      unfold skD at h
      cases hd : dstR n o.dst
      · rw [hd] at h; cases h
      · rw [hd] at h
        obtain ⟨g1, g2⟩ := cDr_ok hc l (i + 1) _ _ _ (putT T0 o.dst (.s (.l (.v (.tuple #[]))))) (tget_putC hT _ _) h
        exact ⟨g1, dstR_ok hd, g2⟩
    unfold aDr
    rw [hm]
    unfold gdD at h
    split at h
    · rename_i hg
      obtain ⟨g1, R, h1, h2, h3, h4, h5⟩ := doIt h
      rw [hg]
      simp only [h1]
      exact ⟨g1, h2, h3, h4, h5⟩
    · rename_i g hg
      obtain ⟨j, want⟩ := g
      rw [hg]
      simp only at h ⊢
      rw [gAtR_eq, gAt_cong hT] at h
      unfold gdAD at h
      split at h
      case h_2 => cases h
      rename_i v hv
      unfold gdVD at h
      split at h
      · rename_i q
        rw [hv]
        simp only
        by_cases hqw : q = want
        · have e : (q == want) = true := by simpa using hqw
          rw [e] at h
          obtain ⟨g1, R, h1, h2, h3, h4, h5⟩ := doIt h
          rw [if_pos hqw]
          simp only [h1]
          exact ⟨g1, h2, h2, h3, h4, h5⟩
        · have e : (q == want) = false := by simpa using hqw
          rw [e] at h
          obtain ⟨g1, g2, g3⟩ := skIt h
          rw [if_neg hqw]
          exact ⟨g1, g2, g3⟩
      · rw [hv]
        obtain ⟨g1, g2, g3⟩ := skIt h
        exact ⟨g1, g2, g3⟩
      · cases h
theorem sw_same {ro : Cf} {c : Code} {s s' : St} {k : XK} (h : SW P ro n c s fun e s1 => e = k.e ∧ SameS s1 s') : SW P ro n c s (isQ k s') := by
  intro B w0 ρ al a w hpl H
  refine wpIn_mono (h B w0 ρ al a w hpl H) ?_
  rintro e a' w' ⟨ρ', al', s1, H', rfl, h1, h2, h3⟩
  exact ⟨ρ', al', s', H'.same h1 h2 h3, rfl, rfl⟩
end

/-! ### Which operations change which blocks: found on the way -/
noncomputable section
/-- the blocks there at the start that an entry changes -/
def chgd (nx : Nat) (E : Heap) : List Nat := (E.map (·.1)).filter fun b => Nat.blt b nx
/-- what the entries of a first evaluation change -/
def fsOf (nx : Nat) : List Ent → Nat → List (Nat × List Nat)
  | [], _ => []
  | e :: r, i => match chgd nx e.E with
    | [] => fsOf nx r (i + 1)
    | b :: l => (i, b :: l) :: fsOf nx r (i + 1)
def hsOf (bs : List Nat) (fs : List (Nat × List Nat)) (n : Nat) : List (Nat × List Nat) := (List.range n).filterMap fun i => match (fs.filter fun m => !(Nat.beq m.1 i || bit (bs.getD i 0) m.1 || bit (bs.getD m.1 0) i)).flatMap (·.2) with
    | [] => none
    | b :: l => some (i, b :: l)
def msOf (ops : List Oper) (nx : Nat) (rs : List Ent) : Ms := match fsOf nx rs 0 with
  | [] => ⟨[], [], []⟩
  | f :: fs => ⟨[], f :: fs, hsOf (befs [] ops) (f :: fs) ops.length⟩
section
variable (P : Program) (call : Cl)
abbrev Ek := St → List Ent → Option (List Ent)
def aftE (d : Option Tmp) (s : St) (rs : List Ent) (ih : Ek) (x : CO) : Option (List Ent) := match x with
  | .val r E => ih ⟨s.nx + 16, putR s.t d r, hsetsR s.h E⟩ (rs ++ [⟨d, r, E⟩])
  | _ => none
def skE (d : Option Tmp) (s : St) (rs : List Ent) (ih : Ek) : Option (List Ent) := ih ⟨s.nx + 16, putR s.t d (.s (.l (.v (.tuple #[])))), s.h⟩ (rs ++ [⟨d, .s (.l (.v (.tuple #[]))), []⟩])
def doE (o : Oper) (s : St) (rs : List Ent) (ih : Ek) : Option (List Ent) := aftE o.dst s rs ih (cOp P call s.nx o.op (evR s.t) s.h)
def gdVE (o : Oper) (s : St) (rs : List Ent) (ih : Ek) (want : Bool) (v : Value) : Option (List Ent) := match v with
  | .bool q => cond (q == want) (doE P call o s rs ih) (skE o.dst s rs ih)
  | _ => skE o.dst s rs ih
def gdAE (o : Oper) (s : St) (rs : List Ent) (ih : Ek) (want : Bool) (a : AV) : Option (List Ent) := match a with
  | .s (.l (.v v)) => gdVE P call o s rs ih want v
  | _ => none
def gdE (all : List Oper) (o : Oper) (s : St) (rs : List Ent) (ih : Ek) (g : Option (Nat × Bool)) : Option (List Ent) := match g with
  | none => doE P call o s rs ih
  | some g => gdAE P call o s rs ih g.2 (gAtR all s.t g.1)
/-- the entries in the order of the text: a guess at what changes -/
def ents (all l : List Oper) : Ek := List.rec (motive := fun _ => Ek) (fun _ rs => some rs) (fun o _ ih s rs => gdE P call all o s rs ih o.guard) l
def draw3 (n : Nat) (ops : List Oper) (s : St) (ms : Ms) : Cx := cond (drawOk ops ms) (cDr P call n ms s.nx s.h ops ops 0 [] [] s.t) (.no 75)
def draw2 (n : Nat) (ops : List Oper) (s : St) (rs : Option (List Ent)) : Cx := match rs with
  | some rs => draw3 P call n ops s (msOf ops s.nx rs)
  | none => .no 76
def drawC (n : Nat) (ops : List Oper) (s : St) : Cx := draw2 P call n ops s (ents P call ops ops s [])
end
end
theorem drawC_ok {P : Program} {ctx : Ctx P} {call : Cl} (hc : ClOk ctx call) (hm : P.follows .mixedOrders = true) {ro : Cf} {n : Nat} : DrawOk P ro n (drawC P call n) := by
  intro id ops s k s' h
  unfold drawC draw2 at h
  cases he : ents P call ops ops s [] with
  | none => rw [he] at h; cases h
  | some rs =>
    rw [he] at h
    simp only at h
    unfold draw3 at h
    cases hd : drawOk ops (msOf ops s.nx rs)
    · rw [hd] at h; cases h
    · rw [hd] at h
      obtain ⟨rfl, h2⟩ := cDr_ok hc ops 0 [] [] s.t s.t (fun _ => rfl) h
      exact sw_same (sw_drawF hm _ hd h2)
end Go.Proofs.YtpdjaabjfhjppaaGreatDoor
