/- The value logic: functions that are handed blocks, and whose result names blocks. No program in sight. -/
import Derived.Test.YtpdjaabjfhjppaaGreatDoorY6
set_option linter.unusedVariables false
set_option linter.unusedSimpArgs false
namespace Go.Proofs.YtpdjaabjfhjppaaGreatDoor
open Go.RowKit

section
variable {ρ ρ' : Nat → Loc} {al al' : Al} {g : Nat → Nat}
theorem LsRep.fwd (F : Fwd ρ ρ' al al' g) : ∀ {xs : List LV} {ys : List Value}, LsRep ρ al xs ys → LsRep ρ' al' (xs.map (·.ren g)) ys
  | [], [], _ => trivial
  | _ :: _, _ :: _, ⟨a, b, c⟩ => ⟨a, LRep.fwd F b, LsRep.fwd F c⟩
theorem SRep.fwd (F : Fwd ρ ρ' al al' g) {x : SV} {y : Value} (h : SRep ρ al x y) : SRep ρ' al' (x.ren g) y := by
  cases x with
  | l x => exact LRep.fwd F h
  | agg xs => obtain ⟨cs, e, h⟩ := h; exact ⟨cs, e, LsRep.fwd F h⟩
theorem SsRep.fwd (F : Fwd ρ ρ' al al' g) : ∀ {xs : List SV} {ys : List Value}, SsRep ρ al xs ys → SsRep ρ' al' (xs.map (·.ren g)) ys
  | [], [], _ => trivial
  | _ :: _, _ :: _, ⟨a, b⟩ => ⟨SRep.fwd F a, SsRep.fwd F b⟩
theorem ARep.fwd (F : Fwd ρ ρ' al al' g) {x : AV} {y : Value} (h : ARep ρ al x y) : ARep ρ' al' (x.ren g) y := by
  cases x with
  | s x => exact SRep.fwd F h
  | tup xs => obtain ⟨cs, e, h⟩ := h; exact ⟨cs, e, SsRep.fwd F h⟩
  | fn k f c => obtain ⟨fs, cs, e, h1, h2⟩ := h; exact ⟨fs, cs, e, LsRep.fwd F h1, LsRep.fwd F h2⟩
end

/-- how such a function ends: its result lies in slot 0 of the last state -/
def leftQ (K : Nat) (s : St) (o : RO) : Option AV → Prop
  | some r => ∃ r' hs ns, o = .ret r' hs ns ∧ hs.length = K ∧ ns.length ≤ 16 ∧ (∀ k, some k ∈ hs → k.own = true) ∧ (∀ k ∈ ns, k.own = true) ∧ Wk ⟨none, K⟩ ⟨s.nx, (0, r) :: s.t, s.h⟩ ⟨K + ns.length, [(0, r')], zipO 0 hs ++ zipH K ns⟩
  | none => False
def outRQ (P : Program) (rs : List ResultVar) (K : Nat) (o : RO) : Exit → St → Prop :=
  endQ (fun s => leftQ K s o (aRet P rs s)) (fun _ _ => False)
theorem outRQ_normal {P : Program} {rs : List ResultVar} {K : Nat} {o : RO} {s : St} : outRQ P rs K o .normal s = leftQ K s o (aRet P rs s) := rfl
theorem outRQ_ret {P : Program} {rs : List ResultVar} {K : Nat} {o : RO} {s : St} : outRQ P rs K o .ret s = leftQ K s o (aRet P rs s) := rfl

def runQ {X : Type} (K : Nat) (dec : Heap → List AV → Option (Prop × List Nat × X)) (out : X → RO) (id : Nat) (h : Heap) (args : List AV) : Option Res :=
  match dec h args with
  | some (q, bs, x) => match out x with
    | .ret r hs ns => some ⟨q, r.ren (gOf K bs id), renH (gOf K bs id) (zipO 0 hs ++ zipH K ns) ++ (bs.drop K).map fun b => (b, none)⟩
    | .pan _ => none
  | none => none

section
variable {P : Program}
def mkQ {X : Type} (K N : Nat) (hKN : K ≤ N) (f : FuncId) (fn : Func) (c : Code) (hf : P.funcs[f]? = some fn) (hb : fn.body = some c)
    (hen : ∀ (args : Array Value) (w : World), (callFunc f args).run P w = .ok (.enter f args) w)
    (dec : Heap → List AV → Option (Prop × List Nat × X)) (encA : X → List AV) (encK : X → List Blk) (out : X → RO) (hn0 : 0 < fn.ntmps)
    (hmono : ∀ {h h' : Heap} {args : List AV} {r : Prop × List Nat × X}, (∀ b k, hget h b = some k → hget h' b = some k) → dec h args = some r → dec h' args = some r)
    (hdec : ∀ {h : Heap} {as : List AV} {q : Prop} {bs : List Nat} {x : X}, dec h as = some (q, bs, x) → q → (encA x).length ≤ fn.ntmps ∧ bs.length = N ∧ (encK x).length = N ∧ bs.Nodup ∧
      ∀ d : Nat, (∀ (j b : Nat) (k : Blk), bs[j]? = some b → (encK x)[j]? = some k → k.own = true ∧ hget h b = some (k.ren fun j => bs.getD j d)) ∧
        ∀ (ρ : Nat → Loc) (al : Al) (vals : List Value), AsRep ρ al as vals → AsRep (fun j => ρ (bs.getD j d)) (alR al fun j => bs.getD j d) (encA x) vals)
    (body : ∀ {h : Heap} {as : List AV} {q : Prop} {bs : List Nat} {x : X}, dec h as = some (q, bs, x) → q → SW P ⟨none, K⟩ fn.ntmps c ⟨N, zipT 0 (encA x), zipH 0 (encK x)⟩ (outRQ P fn.results.toList K (out x))) : Spec P f where
  enter := hen
  run := fun id h args => runQ K dec out id h args
  pan := fun _ _ _ => none
  mono := by
    intro id h h' args R hs hr
    unfold runQ at hr ⊢
    split at hr
    case h_2 => cases hr
    rename_i q bs x hd
    rw [hmono hs hd]
    exact hr
  sound := by
    intro id h args R hr hob B w0 ρ al w vals H hid hA
    unfold runQ at hr
    split at hr
    case h_2 => cases hr
    rename_i q bs x hd
    split at hr
    case h_2 => cases hr
    rename_i r hs ns hout
    injection hr with hr
    subst hr
    obtain ⟨hlen, hK, hKl, hnd, hall⟩ := hdec hd hob
    obtain ⟨hks, henc⟩ := hall id
    have hKb : K ≤ bs.length := by omega
    have hA1 := henc ρ al vals hA
    have hl := hA1.length
    have h0 : ¬ al id := hid id (Nat.le_refl _) (by omega)
    have H1 := enterR H hKb h0 (by rw [hKl, hK]) hnd hks
    have hbs : ∀ b ∈ bs, ∃ k, hget h b = some k ∧ k.own = true := fun b hb => by
      obtain ⟨j, hj, rfl⟩ := List.mem_iff_getElem.1 hb
      obtain ⟨g1, g2⟩ := hks j bs[j] ((encK x)[j]'(by omega)) (List.getElem?_eq_getElem hj) (List.getElem?_eq_getElem _)
      exact ⟨_, g2, g1⟩
    refine calls_of_sw (K := K) (B := baseR w ρ al bs K id H.gok) (ρ := fun j => ρ (bs.getD j id)) (al := alR al fun j => bs.getD j id) (s0 := ⟨N, zipT 0 (encA x), zipH 0 (encK x)⟩) hf hb (by simp [baseR]) rfl ⟨by simp; omega, Marks.nil _ _ _, enter_t hA1 _, H1, fun b hb => ?_⟩ (body hd hob) ?_ ?_
    · rcases Nat.lt_or_ge b bs.length with h | h
      · show b < N; omega
      · have : al (bs.getD b id) := hb
        rw [List.getD_eq_getElem?_getD, List.getElem?_eq_none h] at this
        exact absurd this h0
    · intro s ρ1 al1 a w1 hq1 HS
      cases hret : aRet P fn.results.toList s with
      | none => rw [hret] at hq1; exact hq1.elim
      | some r0 =>
        rw [hret] at hq1
        obtain ⟨r', hs', ns', e, hl1, hl2, ho1, ho2, hwk⟩ := hq1
        rw [hout] at e
        injection e with e1 e2 e3
        subst e1
        subst e2
        subst e3
        obtain ⟨v, g1, g2⟩ := aRet_sound (fn := fn) HS hret
        have HS0 : RepS fn.ntmps (baseR w ρ al bs K id H.gok) w ρ1 al1 ⟨s.nx, (0, r0) :: s.t, s.h⟩ (a.put (some 0) v) w1 :=
          ⟨by rw [put_size]; exact HS.size, by rw [put_defers]; exact HS.defers, TRep.putT HS.t HS.size (d := some 0) (by simpa [dstOk] using hn0) g2, HS.w, HS.al⟩
        obtain ⟨ρ2, al2, HS2⟩ := hwk _ _ _ _ _ _ _ (by simp [baseR]) HS0
        obtain ⟨ρ', al', k1, k2, k3, k4⟩ := leaveRF H hKb hid hnd hbs hl1 hl2 ho1 ho2 HS2.w HS2.al
        have hv : ARep ρ2 al2 r v := by
          have := HS2.t 0
          have h2 : (a.put (some 0) v).tmps.getD 0 undef = v := by
            have hs : 0 < a.tmps.size := by rw [HS.size]; exact hn0
            simp [Act.put, hs]
          rw [h2] at this
          exact this
        exact ⟨v, g1, v, ρ', al', rfl, k1, k2, hv.fwd k4, by simpa only [List.append_assoc] using k3⟩
    · intro y s ρ1 al1 a w1 h1 HS
      exact h1.elim
  psound := by
    intro id h args ob y E hr
    cases hr
end

end Go.Proofs.YtpdjaabjfhjppaaGreatDoor
