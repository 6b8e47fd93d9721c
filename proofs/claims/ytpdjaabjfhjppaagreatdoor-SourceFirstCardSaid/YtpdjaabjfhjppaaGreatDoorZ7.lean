/- The value logic, computed: a function's run gives its contract; calls within calls. No program in sight. -/
import Derived.Test.YtpdjaabjfhjppaaGreatDoorZ6
set_option linter.unusedVariables false
set_option linter.unusedSimpArgs false
namespace Go.Proofs.YtpdjaabjfhjppaaGreatDoor
open Go.RowKit
set_option maxRecDepth 100000

/-- how a computed body ends: with a result and the blocks, or a panic -/
inductive EC where
  | ret (r : AV) (hs : List (Option Blk)) (ns : List Blk)
  | pan (v : Value)
  | no (e : Nat)
noncomputable section
def endL (x : Option (AV × List (Option Blk) × List Blk)) : EC := match x with
  | some x => .ret x.1 x.2.1 x.2.2
  | none => .no 60
def endR (K : Nat) (h : Heap) (r : Option AV) : EC := match r with
  | some r => endL (leftC K h r)
  | none => .no 61
def endK (P : Program) (K : Nat) (rs : List ResultVar) (k : XK) (s : St) : EC := match k with
  | .norm => endR K s.h (aRet P rs s)
  | .ret => endR K s.h (aRet P rs s)
  | .pn v => .pan v
  | .ex _ => .no 62
def endX (P : Program) (K : Nat) (rs : List ResultVar) (o : Cx) : EC := match o with
  | .go k s => endK P K rs k s
  | .no e => .no e
end
theorem endR_ret {K : Nat} {h : Heap} {x : Option AV} {r : AV} {hs : List (Option Blk)} {ns : List Blk} (he : endR K h x = .ret r hs ns) : ∃ r0, x = some r0 ∧ leftC K h r0 = some (r, hs, ns) := by
  unfold endR at he
  cases x with
  | none => cases he
  | some r0 =>
    simp only at he
    unfold endL at he
    cases hx : leftC K h r0 with
    | none => rw [hx] at he; cases he
    | some y =>
      rw [hx] at he
      injection he with h1 h2 h3
      subst h1 h2 h3
      exact ⟨r0, rfl, hx⟩
theorem endR_pan {K : Nat} {h : Heap} {x : Option AV} {v : Value} (he : endR K h x = .pan v) : False := by
  unfold endR endL at he
  repeat' split at he
  all_goals cases he
theorem endX_ret {P : Program} {K : Nat} {rs : List ResultVar} {o : Cx} {r : AV} {hs : List (Option Blk)} {ns : List Blk} (h : endX P K rs o = .ret r hs ns) : ∃ k s r0, o = .go k s ∧ (k = .norm ∨ k = .ret) ∧ aRet P rs s = some r0 ∧ leftC K s.h r0 = some (r, hs, ns) := by
  unfold endX at h
  cases o with
  | no e => cases h
  | go k s =>
    simp only at h
    unfold endK at h
    cases k with
    | norm => obtain ⟨r0, h1, h2⟩ := endR_ret h; exact ⟨_, _, r0, rfl, .inl rfl, h1, h2⟩
    | ret => obtain ⟨r0, h1, h2⟩ := endR_ret h; exact ⟨_, _, r0, rfl, .inr rfl, h1, h2⟩
    | ex j => cases h
    | pn v => cases h
theorem endX_pan {P : Program} {K : Nat} {rs : List ResultVar} {o : Cx} {v : Value} (h : endX P K rs o = .pan v) : ∃ s, o = .go (.pn v) s := by
  unfold endX at h
  cases o with
  | no e => cases h
  | go k s =>
    simp only at h
    unfold endK at h
    cases k with
    | norm => exact (endR_pan h).elim
    | ret => exact (endR_pan h).elim
    | ex j => cases h
    | pn w => injection h with h; subst h; exact ⟨s, rfl⟩

/-- how a callee's body is computed: from its first state -/
abbrev Bd := St → Cx
noncomputable section
def callX (K : Nat) (bs : List Nat) (id : Nat) (x : EC) : CO := match x with
  | .ret r hs ns => .val (r.ren (gOf K bs id)) (renH (gOf K bs id) (zipO 0 hs ++ zipH K ns))
  | .pan v => .pan v (bs.map fun b => (b, none))
  | .no e => .no e
def callH (P : Program) (rs : List ResultVar) (bd : Bd) (id : Nat) (x : Option (List Nat × List AV × List Blk)) : CO := match x with
  | some x => callX x.1.length x.1 id (endX P x.1.length rs (bd ⟨x.1.length, zipT 0 x.2.1, zipH 0 x.2.2⟩))
  | none => .no 63
def callB (P : Program) (n : Nat) (rs : List ResultVar) (bd : Bd) (id : Nat) (h : Heap) (args : List AV) : CO := callH P rs bd id (handR n h args)
end
def coRun (x : CO) : Option Res := match x with
  | .val r E => some ⟨True, r, E⟩
  | _ => none
def coPan (x : CO) : Option (Prop × Value × Heap) := match x with
  | .pan v E => some (True, v, E)
  | _ => none

section
variable {P : Program}
theorem callB_mono {n : Nat} {rs : List ResultVar} {bd : Bd} {id : Nat} {h h' : Heap} {args : List AV} (hs : ∀ b k, hget h b = some k → hget h' b = some k) {R : Res} (hr : coRun (callB P n rs bd id h args) = some R) : coRun (callB P n rs bd id h' args) = some R := by
  unfold callB at hr ⊢
  cases hd : handR n h args with
  | none => rw [hd] at hr; cases hr
  | some x => rw [hd] at hr; rw [hand_mono hs hd]; exact hr

theorem handed {n : Nat} {h : Heap} {args : List AV} {bs : List Nat} {as' : List AV} {ks' : List Blk} (hd : handR n h args = some (bs, as', ks')) {B : Base} {w0 : World} {ρ : Nat → Loc} {al : Al} {w : World} {id : Nat} {vals : List Value} (H : WRep B w0 ρ al h w) (hid : ¬ al id) (hA : AsRep ρ al args vals) :
    (∀ b ∈ bs, ∃ k, hget h b = some k ∧ k.own = true) ∧ bs.Nodup ∧ vals.length ≤ n ∧ 0 < n ∧
    RepS n (baseR w ρ al bs bs.length id H.gok) w (fun j => ρ (bs.getD j id)) (alR al fun j => bs.getD j id) ⟨bs.length, zipT 0 as', zipH 0 ks'⟩ { tmps := vals.toArray ++ Array.replicate (n - vals.toArray.size) undef, defers := [] } w := by
  obtain ⟨hlen, hn0, hKl, hnd, hall⟩ := hand_ok hd
  obtain ⟨hks, henc⟩ := hall id
  have hA1 := henc ρ al vals hA
  have hl := hA1.length
  have H1 := enterR H (Nat.le_refl _) hid hKl hnd hks
  refine ⟨fun b hb => ?_, hnd, by omega, hn0, ⟨by simp; omega, Marks.nil _ _ _, enter_t hA1 _, H1, fun b hb => ?_⟩⟩
  · obtain ⟨j, hj, rfl⟩ := List.mem_iff_getElem.1 hb
    obtain ⟨g1, g2⟩ := hks j bs[j] (ks'[j]'(by omega)) (List.getElem?_eq_getElem hj) (List.getElem?_eq_getElem _)
    exact ⟨_, g2, g1⟩
  · rcases Nat.lt_or_ge b bs.length with h | h
    · exact h
    · have : al (bs.getD b id) := hb
      rw [List.getD_eq_getElem?_getD, List.getElem?_eq_none h] at this
      exact absurd this hid

/-- A function whose body is computed. -/
noncomputable def mkC' (f : FuncId) (fn : Func) (c : Code) (hf : P.funcs[f]? = some fn) (hb : fn.body = some c)
    (hen : ∀ (args : Array Value) (w : World), (callFunc f args).run P w = .ok (.enter f args) w)
    (bd : Bd) (hbd : ∀ K s k s', bd s = .go k s' → SW P ⟨none, K⟩ fn.ntmps c s (isQ k s')) : Spec P f where
  enter := hen
  run := fun id h args => coRun (callB P fn.ntmps fn.results.toList bd id h args)
  pan := fun id h args => coPan (callB P fn.ntmps fn.results.toList bd id h args)
  mono := fun hs hr => callB_mono hs hr
  sound := by
    intro id h args R hr hob B w0 ρ al w vals H hid hA
    unfold callB at hr
    cases hd : handR fn.ntmps h args with
    | none => rw [hd] at hr; cases hr
    | some x =>
      obtain ⟨bs, as', ks'⟩ := x
      rw [hd] at hr
      simp only [callH] at hr
      cases he : endX P bs.length fn.results.toList (bd ⟨bs.length, zipT 0 as', zipH 0 ks'⟩) with
      | no e => rw [he] at hr; cases hr
      | pan v => rw [he] at hr; cases hr
      | ret r hs ns =>
        rw [he] at hr
        injection hr with hr
        subst hr
        obtain ⟨k, s', r0, ho, hk, hret, hlc⟩ := endX_ret he
        have h0 : ¬ al id := hid id (Nat.le_refl _) (by omega)
        obtain ⟨hbs, hnd, hvl, hn0, H1⟩ := handed hd H h0 hA
        refine calls_of_sw (K := bs.length) (s0 := ⟨bs.length, zipT 0 as', zipH 0 ks'⟩) (post := fun s => s = s') (pp := fun _ _ => False) hf hb (by simp [baseR]) rfl H1 ((hbd _ _ _ _ ho).mono ?_) ?_ ?_
        · rintro e s ⟨rfl, rfl⟩
          rcases hk with rfl | rfl <;> rfl
        · rintro s ρ1 al1 a w1 rfl HS
          obtain ⟨l1, l2, o1, o2, hwk⟩ := left_ok hlc
          obtain ⟨v, g1, g2⟩ := aRet_sound (fn := fn) HS hret
          have HS0 : RepS fn.ntmps (baseR w ρ al bs bs.length id H.gok) w ρ1 al1 ⟨s.nx, (0, r0) :: s.t, s.h⟩ (a.put (some 0) v) w1 :=
            ⟨by rw [put_size]; exact HS.size, by rw [put_defers]; exact HS.defers, TRep.putT HS.t HS.size (d := some 0) (by simpa [dstOk] using hn0) g2, HS.w, HS.al⟩
          obtain ⟨ρ2, al2, HS2⟩ := hwk _ _ _ _ _ _ _ (by simp [baseR]) HS0
          obtain ⟨ρ', al', k1, k2, k3, k4⟩ := leaveRF H (Nat.le_refl _) hid hnd hbs l1 l2 o1 o2 HS2.w HS2.al
          have hv : ARep ρ2 al2 r v := by
            have := HS2.t 0
            have h2 : (a.put (some 0) v).tmps.getD 0 undef = v := by
              have hs : 0 < a.tmps.size := by rw [HS.size]; exact hn0
              simp [Act.put, hs]
            rw [h2] at this
            exact this
          refine ⟨v, g1, v, ρ', al', rfl, k1, k2, hv.fwd k4, ?_⟩
          simpa using k3
        · intro x s ρ1 al1 a w1 h1
          exact h1.elim
  psound := by
    intro id h args ob y E hr hob B w0 ρ al w vals H hid hA
    unfold callB at hr
    cases hd : handR fn.ntmps h args with
    | none => rw [hd] at hr; cases hr
    | some x =>
      obtain ⟨bs, as', ks'⟩ := x
      rw [hd] at hr
      simp only [callH] at hr
      cases he : endX P bs.length fn.results.toList (bd ⟨bs.length, zipT 0 as', zipH 0 ks'⟩) with
      | no e => rw [he] at hr; cases hr
      | ret r hs ns => rw [he] at hr; cases hr
      | pan v =>
        rw [he] at hr
        injection hr with hr
        injection hr with e1 hr
        injection hr with e2 e3
        subst e1 e2 e3
        obtain ⟨s', ho⟩ := endX_pan he
        have h0 : ¬ al id := hid id (Nat.le_refl _) (by omega)
        obtain ⟨hbs, hnd, hvl, hn0, H1⟩ := handed hd H h0 hA
        refine calls_of_sw (K := bs.length) (s0 := ⟨bs.length, zipT 0 as', zipH 0 ks'⟩) (post := fun _ => False) (pp := fun z s => z = v ∧ s = s') hf hb (by simp [baseR]) rfl H1 ((hbd _ _ _ _ ho).mono ?_) ?_ ?_
        · rintro e s ⟨rfl, rfl⟩
          exact ⟨v, rfl, rfl, rfl⟩
        · intro s ρ1 al1 a w1 h1
          exact h1.elim
        · rintro z s ρ1 al1 a w1 ⟨rfl, rfl⟩ HS
          obtain ⟨ρ2, al2, HS2⟩ := (Wk.ren (ro := ⟨none, bs.length⟩) (s := s) (s' := ⟨bs.length, [], zipO 0 (List.replicate bs.length none)⟩) (List.range bs.length) (fun j hj => by rw [List.getElem?_range hj]) (by simp) List.nodup_range (by simp) (by
            intro p hp k hk
            obtain ⟨j, o⟩ := p
            simp only at hk
            subst hk
            have : ∀ (n i j : Nat) (k : Blk), (j, some k) ∉ zipO i (List.replicate n none) := by
              intro n
              induction n with
              | zero => intro i j k hm; simp [zipO] at hm
              | succ n ih => intro i j k hm; simp [List.replicate_succ, zipO] at hm; exact ih _ _ _ hm
            exact absurd hp (this _ _ _ _))) _ _ _ _ _ _ _ (by simp [baseR]) HS
          obtain ⟨ρ', al', k1, k2, k3⟩ := leaveR H (Nat.le_refl _) hid hnd hbs (ns := []) (hs := List.replicate bs.length none) (by simp) (by simp) (by intro k hk; simp [List.mem_replicate] at hk) (by simp) (by simpa [zipH] using HS2.w) (by simpa using HS2.al)
          refine ⟨ρ', al', rfl, k1, k2, k3.sub fun b k hk => ?_⟩
          obtain ⟨h3, h4⟩ := hget_hides hk
          rw [← h4]
          have : ∀ E : Heap, (∀ x ∈ E, x.1 ≠ b) → hget (E ++ h) b = hget h b := by
            intro E
            induction E with
            | nil => intro _; rfl
            | cons x E ih =>
              intro hE
              obtain ⟨c, o⟩ := x
              rw [List.cons_append, hget, if_neg (hE (c, o) (by simp))]
              exact ih fun y hy => hE y (by simp [hy])
          rw [← List.append_assoc]
          refine this _ fun y hy => ?_
          rcases List.mem_append.1 hy with hy | hy
          · simp only [renH, zipH, List.append_nil, List.mem_map] at hy
            obtain ⟨z, hz, rfl⟩ := hy
            have hkz : z.1 ∈ keysOf (zipO 0 (List.replicate bs.length none)) := List.mem_map.2 ⟨z, hz, rfl⟩
            rw [keys_zipO] at hkz
            have hz2 : z.1 < bs.length := by simpa using hkz
            have hz3 : z.1 < bs.length := by omega
            simp only [gOf, if_pos hz2, getD_lt hz3]
            rintro rfl
            exact h3 (List.getElem_mem hz3)
          · obtain ⟨c, hc, rfl⟩ := List.mem_map.1 hy
            rintro rfl
            exact h3 (List.mem_of_mem_drop hc)
end
end Go.Proofs.YtpdjaabjfhjppaaGreatDoor
