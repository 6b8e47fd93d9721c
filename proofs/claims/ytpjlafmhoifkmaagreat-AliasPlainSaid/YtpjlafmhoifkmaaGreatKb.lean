/- Logical immediates: the sizes of elements, one by one. Logical immediates: the program's search. -/
import Derived.Test.YtpjlafmhoifkmaaGreatKa
set_option linter.unusedVariables false
set_option linter.unusedSimpArgs false
namespace Go.Proofs.YtpjlafmhoifkmaaGreat
open Go.RowKit
set_option maxRecDepth 100000

def srow (n : Nat) : List AV := [iv n]
def szI : Nat → Int
  | 0 => 2
  | 1 => 4
  | 2 => 8
  | 3 => 16
  | 4 => 32
  | 5 => 64
  | _ => 128
def decSz : List D → Option (Prop × List (List AV))
  | [.pd [.v (.int .i64 w)]] => some (w = 32 ∨ w = 64, (lSizes w.toNat).map srow)
  | _ => none
def szT (l : Nat) (w : Int) (i : Nat) : St := ⟨0, [(0, yieldV l), (1, .s (.l (.d (.pd [.v (.int .i64 w)])))), (3, iv (szI i))], []⟩
theorem sI0 : szI 0 = 2 := rfl
theorem sI1 : szI 1 = 4 := rfl
theorem sI2 : szI 2 = 8 := rfl
theorem sI3 : szI 3 = 16 := rfl
theorem sI4 : szI 4 = 32 := rfl
theorem sI5 : szI 5 = 64 := rfl
theorem sI6 : szI 6 = 128 := rfl
theorem sW2 : IntKind.i64.wrap (2 * 2) = 4 := by decide
theorem sW4 : IntKind.i64.wrap (4 * 2) = 8 := by decide
theorem sW8 : IntKind.i64.wrap (8 * 2) = 16 := by decide
theorem sW16 : IntKind.i64.wrap (16 * 2) = 32 := by decide
theorem sW32 : IntKind.i64.wrap (32 * 2) = 64 := by decide
theorem sW64 : IntKind.i64.wrap (64 * 2) = 128 := by decide
theorem t32 : Int.toNat 32 = 32 := rfl
theorem t64 : Int.toNat 64 = 64 := rfl
theorem len32 : (lSizes 32).length = 5 := rfl
theorem len64 : (lSizes 64).length = 6 := rfl
set_option maxHeartbeats 2000000 in
theorem sizes1_sw (l : Nat) (w : Int) (h : w = 32 ∨ w = 64) : SWy Tryz.prog l ((lSizes w.toNat).map srow) ⟨none, 0⟩ Tryz.f169.ntmps (Tryz.f169.body.getD .skip) ⟨0, zipT 0 [yieldV l, .s (.l (.d (.pd [.v (.int .i64 w)])))], []⟩ (0, true) (itQ ((lSizes w.toNat).map srow)) := by
  refine yRun_sound (ctx := []) 4000 ?_
  rw [Tryz.ntmps169]
  simp only [Tryz.f169, Option.getD_some, zipT]
  simp only [go_sem, yieldV]
  rcases h with rfl | rfl
  · refine swy_loop (ι := Nat) (fun i => i ≤ 5) (szT l 32) (fun i => (i, true)) (fun i => 5 - i) 0 (Nat.zero_le _) rfl (fun i _ b k hk => by cases hk) (Wk.renL [] (by simp) (by simp) (by simp) rfl rfl) ?_
    intro i hi
    refine yRun_sound (ctx := []) 4000 ?_
    have : i = 0 ∨ i = 1 ∨ i = 2 ∨ i = 3 ∨ i = 4 ∨ i = 5 := by omega
    rcases this with rfl | rfl | rfl | rfl | rfl | rfl
    all_goals simp only [go_sem, szT, sI0, sI1, sI2, sI3, sI4, sI5, sI6, sW2, sW4, sW8, sW16, sW32, sW64, yieldV, t32, t64, len32, len64, List.length_map]
    · exact ⟨rfl, 1, by decide, by decide, rfl, Wk.renL [] (by simp) (by simp) (by simp) rfl rfl⟩
    · exact ⟨rfl, 2, by decide, by decide, rfl, Wk.renL [] (by simp) (by simp) (by simp) rfl rfl⟩
    · exact ⟨rfl, 3, by decide, by decide, rfl, Wk.renL [] (by simp) (by simp) (by simp) rfl rfl⟩
    · exact ⟨rfl, 4, by decide, by decide, rfl, Wk.renL [] (by simp) (by simp) (by simp) rfl rfl⟩
    · exact ⟨rfl, 5, by decide, by decide, rfl, Wk.renL [] (by simp) (by simp) (by simp) rfl rfl⟩
  · refine swy_loop (ι := Nat) (fun i => i ≤ 6) (szT l 64) (fun i => (i, true)) (fun i => 6 - i) 0 (Nat.zero_le _) rfl (fun i _ b k hk => by cases hk) (Wk.renL [] (by simp) (by simp) (by simp) rfl rfl) ?_
    intro i hi
    refine yRun_sound (ctx := []) 4000 ?_
    have : i = 0 ∨ i = 1 ∨ i = 2 ∨ i = 3 ∨ i = 4 ∨ i = 5 ∨ i = 6 := by omega
    rcases this with rfl | rfl | rfl | rfl | rfl | rfl | rfl
    all_goals simp only [go_sem, szT, sI0, sI1, sI2, sI3, sI4, sI5, sI6, sW2, sW4, sW8, sW16, sW32, sW64, yieldV, t32, t64, len32, len64, List.length_map]
    · exact ⟨rfl, 1, by decide, by decide, rfl, Wk.renL [] (by simp) (by simp) (by simp) rfl rfl⟩
    · exact ⟨rfl, 2, by decide, by decide, rfl, Wk.renL [] (by simp) (by simp) (by simp) rfl rfl⟩
    · exact ⟨rfl, 3, by decide, by decide, rfl, Wk.renL [] (by simp) (by simp) (by simp) rfl rfl⟩
    · exact ⟨rfl, 4, by decide, by decide, rfl, Wk.renL [] (by simp) (by simp) (by simp) rfl rfl⟩
    · exact ⟨rfl, 5, by decide, by decide, rfl, Wk.renL [] (by simp) (by simp) (by simp) rfl rfl⟩
    · exact ⟨rfl, 6, by decide, by decide, rfl, Wk.renL [] (by simp) (by simp) (by simp) rfl rfl⟩
theorem en_sizes1 (args : Array Value) (w : World) : (callFunc 169 args).run Tryz.prog w = .ok (.enter 169 args) w := by go_simp
noncomputable def sizesIt : It Tryz.prog 169 :=
  mkIt _ _ _ Tryz.func169 rfl rfl en_sizes1 decSz (by
    intro ds q L hd hq l
    unfold decSz at hd
    split at hd
    case h_2 => cases hd
    rename_i k
    injection hd with hd
    injection hd with h1 hd
    subst h1
    subst hd
    exact ⟨by rw [Tryz.ntmps169]; show 1 + 1 ≤ 14; decide, sizes1_sw l k hq⟩)
theorem sizes_dec {w : Int} : sizesIt.dec [.pd [.v (.int .i64 w)]] = some (w = 32 ∨ w = 64, (lSizes w.toNat).map srow) := rfl
theorem en_sizes (args : Array Value) (w : World) : (callFunc 151 args).run Tryz.prog w = .ok (.enter 151 args) w := by go_simp
def sizesS : Spec Tryz.prog 151 :=
  mk1 _ _ _ Tryz.func151 rfl en_sizes (tInt .i64) ((fun _ => True)) ((fun w => .ret (.fn 169 [] [.d (.pd [.v (.int .i64 w)])]))) (by rw [Tryz.ntmps151]; decide) (fun w _ => by
  refine aRun_sound (ctx := []) 4000 ?_
  rw [Tryz.ntmps151, Tryz.results151]
  simp only [Tryz.f151, Option.getD_some, zipT]
  simp only [go_sem])
theorem sizes_run {id : Nat} {h : Heap} {args : List AV} : (sizesS).run id h args = runP (args1 (tInt .i64) ((fun _ => True))) ((fun w => .ret (.fn 169 [] [.d (.pd [.v (.int .i64 w)])]))) h args := rfl
theorem sizes_pan {id : Nat} {h : Heap} {args : List AV} : (sizesS).pan id h args = panP (args1 (tInt .i64) ((fun _ => True))) ((fun w => .ret (.fn 169 [] [.d (.pd [.v (.int .i64 w)])]))) h args := rfl

end Go.Proofs.YtpjlafmhoifkmaaGreat

namespace Go.Proofs.YtpjlafmhoifkmaaGreat
open Go.RowKit
set_option maxRecDepth 100000

/-! ### Scopes without jumps -/
theorem stepR_scope {P : Program} {b : Frame} {a : Act} {k : List Item} {cs : List Frame} {w : World} {c : Code} : step P (lone (b.atR a (.code (.scope c) :: k)) cs w) = .next (lone (b.atR a (.code c :: .inScope c :: k)) cs w) :=
  step_lone_go (by simp [stepG, stepG.exec, Frame.atR])
theorem stepR_inScope {P : Program} {b : Frame} {a : Act} {k : List Item} {cs : List Frame} {w : World} {c : Code} : step P (lone (b.atR a (.inScope c :: k)) cs w) = .next (lone (b.atR a k) cs w) :=
  step_lone_go (by simp [stepG, stepG.exec, Frame.atR])
def noGotoQ (Q : Exit → St → Prop) : Exit → St → Prop
  | .goto _, _ => False
  | e, s => Q e s
theorem sw_scope {P : Program} {ro : Cf} {n : Nat} {c : Code} {s : St} {Q : Exit → St → Prop} (h : SW P ro n c s (noGotoQ Q)) : SW P ro n (.scope c) s Q := by
  intro B w0 ρ al a w hpl H b k cs hro hb hr
  obtain ⟨e, a₁, w₁, ⟨ρ', al', s', H', q⟩, harr⟩ := h B w0 ρ al a w hpl H b (.inScope c :: k) cs hro hb hr
  have h0 : StepsIn (Machine.fenced P (Fw ro)) P (lone (b.atR a (.code (.scope c) :: k)) cs w) (lone (b.atR a (.code c :: .inScope c :: k)) cs w) := one_fw stepR_scope
  cases e with
  | normal => exact ⟨.normal, a₁, w₁, ⟨ρ', al', s', H', q⟩, h0.trans (StepsIn.trans harr (one_fw stepR_inScope))⟩
  | exit id =>
    have hx : exitTo id (.inScope c :: k) = exitTo id k := by simp [exitTo]
    exact ⟨.exit id, a₁, w₁, ⟨ρ', al', s', H', q⟩, fun k' hk => h0.trans (harr.1 k' (by rw [hx]; exact hk)),
        fun hr' hk => let ⟨k₁, h1, h2⟩ := harr.2 hr' (by rw [hx]; exact hk); ⟨k₁, h1, h0.trans h2⟩⟩
  | goto l => exact q.elim
  | ret => exact ⟨_, a₁, w₁, ⟨ρ', al', s', H', q⟩, .of_steps h0 harr⟩
  | panic ch => exact ⟨_, a₁, w₁, ⟨ρ', al', s', H', q⟩, .of_steps h0 harr⟩
  | outgrown => exact ⟨_, a₁, w₁, ⟨ρ', al', s', H', q⟩, .of_steps h0 harr⟩
theorem noGotoQ_normal {Q : Exit → St → Prop} {s : St} : noGotoQ Q .normal s = Q .normal s := rfl
theorem noGotoQ_ret {Q : Exit → St → Prop} {s : St} : noGotoQ Q .ret s = Q .ret s := rfl
theorem noGotoQ_exit {Q : Exit → St → Prop} {i : Nat} {s : St} : noGotoQ Q (.exit i) s = Q (.exit i) s := rfl

/-- the first range over a function in some code -/
def rangeOf : Code → Code
  | .seq x y => match rangeOf x with
    | .skip => rangeOf y
    | z => z
  | .block _ x => rangeOf x
  | .scope x => rangeOf x
  | .rangeFunc x ps as' bo => .rangeFunc x ps as' bo
  | _ => .skip
def patK (a b c : Int) : Blk := ⟨true, 91, 3, [[.v (.int .i64 a), .v (.int .i64 b), .v (.int .i64 c)]]⟩
def errK (n : Int) : Blk := ⟨true, 28, 1, [[.v (.int .i64 n)]]⟩
def u64K (v : Nat) : Blk := ⟨true, 24, 1, [[.v (.int .u64 (v : Int))]]⟩
def intK (v : Int) : Blk := ⟨true, 3, 1, [[.v (.int .i64 v)]]⟩
def fdT (w : Nat) : Tmps := [(2, .s (.l (.p 0 0 0))), (3, .s (.l (.p 1 0 0))), (4, .s (.l (.p 2 0 0))), (5, .s (.l (.p 3 0 0))), (23, .s (.l (.d (.fn 169 [] [.pd [.v (.int .i64 (w : Int))]]))))]
def fdH (v w : Nat) : Heap := [(0, some (u64K v)), (1, some (intK w)), (2, some (patK 0 0 0)), (3, some (errK 0))]
def fd1 (v w s : Nat) (x : Nat × Nat) : St := ⟨4, [(6, iv s), (7, uv (lMask s)), (8, uv (v &&& lMask s)), (9, iv x.2), (2, .s (.l (.p 0 0 0))), (3, .s (.l (.p 1 0 0))), (4, .s (.l (.p 2 0 0))), (5, .s (.l (.p 3 0 0)))], fdH v w⟩
def fd2 (v w s o : Nat) (x : Nat × Nat) : St := ⟨5, [(6, iv s), (10, .s (.l (.p 4 0 0))), (2, .s (.l (.p 0 0 0))), (3, .s (.l (.p 1 0 0))), (4, .s (.l (.p 2 0 0))), (5, .s (.l (.p 3 0 0)))], [(4, some (patK s o x.2)), (0, some (u64K v)), (1, some (intK w)), (2, some (patK 0 0 0)), (3, some (errK 0))]⟩
def findO : Option (Nat × Nat × Nat) → AV
  | some (s, o, t) => .tup [.agg [.v (.int .i64 (s : Int)), .v (.int .i64 (o : Int)), .v (.int .i64 (t : Int))], .l (.v (.int .i64 0))]
  | none => .tup [.agg [.v (.int .i64 0), .v (.int .i64 0), .v (.int .i64 0)], .l (.v (.int .i64 20))]

theorem find_at {p : Nat → Bool} : ∀ {l : List Nat} {i s : Nat}, (∀ j r, j < i → l[j]? = some r → p r = false) → l[i]? = some s → p s = true → l.find? p = some s
  | [], _, _, _, h, _ => by simp at h
  | a :: l, 0, s, _, h, hs => by
    simp only [List.getElem?_cons_zero, Option.some.injEq] at h
    subst h
    simp [hs]
  | a :: l, i + 1, s, h0, h, hs => by
    have ha : p a = false := h0 0 a (Nat.succ_pos _) rfl
    rw [List.find?_cons, ha]
    exact find_at (i := i) (fun j r hj hr => h0 (j + 1) r (by omega) (by simpa using hr)) (by simpa using h) hs
theorem find_no {p : Nat → Bool} {l : List Nat} (h : ∀ j r, j < l.length → l[j]? = some r → p r = false) : l.find? p = none := by
  rw [List.find?_eq_none]
  intro x hx
  obtain ⟨j, hj, rfl⟩ := List.mem_iff_getElem.1 hx
  rw [h j l[j] hj (List.getElem?_eq_getElem hj)]
  simp
theorem lSizes_in {w s : Nat} (hw : w = 32 ∨ w = 64) (h : s ∈ lSizes w) : 2 ≤ s ∧ s ≤ w := by
  rcases hw with rfl | rfl <;> simp only [lSizes, List.mem_cons, List.not_mem_nil, or_false] at h <;> omega

theorem pin4 (b : Nat) (j : Nat) (hj : j < 4) : ([0, 1, 2, 3, b] : List Nat)[j]? = some j := by
  have : j = 0 ∨ j = 1 ∨ j = 2 ∨ j = 3 := by omega
  rcases this with rfl | rfl | rfl | rfl <;> rfl
set_option maxHeartbeats 8000000 in
theorem find_sw (v w : Nat) (hv : v < 18446744073709551616) (hw : w = 32 ∨ w = 64) : SW Tryz.prog ⟨none, 0⟩ Tryz.f93.ntmps (Tryz.f93.body.getD .skip) ⟨0, zipT 0 [tU.enc (v : Int), (tInt .i64).enc (w : Int)], []⟩ (outQ Tryz.prog Tryz.f93.results.toList (.ret (findO (lFind v w)))) := by
  refine aRun_sound (ctx := [⟨_, widthS⟩, ⟨_, sizesS⟩]) 4000 ?_
  rw [Tryz.ntmps93, Tryz.results93]
  simp only [Tryz.f93, Option.getD_some, zipT]
  have t : ∀ n : Nat, Int.toNat (n : Int) = n := fun _ => rfl
  have hwI : (w : Int) = 32 ∨ (w : Int) = 64 := by omega
  have nf : ¬ (w = 32 ∧ 4294967296 ≤ v) → ∀ (Q : Exit → St → Prop), (∀ nx h s o t', lFind v w = some (s, o, t') → hget h 2 = some (patK s o t') → hget h 3 = some (errK 0) → Q .ret ⟨nx, fdT w, h⟩) →
      (∀ nx h, lFind v w = none → hget h 2 = some (patK 0 0 0) → hget h 3 = some (errK 0) → Q (.exit 0) ⟨nx, fdT w, h⟩) → (lFind v w = none → Q .normal ⟨4, fdT w, fdH v w⟩) →
      SW Tryz.prog ⟨none, 0⟩ 70 (rangeOf (Tryz.f93.body.getD .skip)) ⟨4, fdT w, fdH v w⟩ Q := by
    intro hnot Q hret hexit hdone
    have hlF : lFind v w = match lFirst v w with
      | none => none
      | some size => (lTurn v size (pop (v &&& lMask size)) w 64 0).map fun t => (size, pop (v &&& lMask size), t) := by unfold lFind; rw [if_neg hnot]; rfl
    have hrr : ∃ a b, rangeOf (Tryz.f93.body.getD .skip) = .rangeFunc (.tmp 23) #[24] a b := ⟨_, _, rfl⟩
    refine sw_pin (K' := 4) (by decide) (fun j hj => ?_) ?_
    · have hj' : j = 0 ∨ j = 1 ∨ j = 2 ∨ j = 3 := by omega
      rcases hj' with rfl | rfl | rfl | rfl <;> exact ⟨_, rfl⟩
    refine sw_range (ι := Unit) (mv := [(6, 24)]) (t := fdT w) (fun i _ => ∀ (j r : Nat), j < i → (lSizes w)[j]? = some r → lPer v r w 64 r = false) (fun _ => fdH v w) (fun _ => 4)
      (fun c s => ownL s.h = true ∧ ((c = .ret ∧ ∃ a o t', lFind v w = some (a, o, t') ∧ hget s.h 2 = some (patK a o t') ∧ hget s.h 3 = some (errK 0)) ∨ (c = .exit 0 ∧ lFind v w = none ∧ hget s.h 2 = some (patK 0 0 0) ∧ hget s.h 3 = some (errK 0))))
      sizesIt sizes_dec hwI rfl rfl (by decide) (by decide) (fun As hA => ?_) (tpin_of rfl) (fun i x _ => ownL_get rfl) (fun c s h => ownL_get h.1) () (fun j r hj => absurd hj (Nat.not_lt_zero j)) (fun l i x As hinv hA => ?_) (fun x hinv => ?_) (fun c s h => ?_)
    · obtain ⟨r, _, rfl⟩ := List.mem_map.1 hA
      rfl
    · rw [List.getElem?_map, Option.map_eq_some_iff] at hA
      obtain ⟨s, hs, rfl⟩ := hA
      rw [t] at hs
      obtain ⟨s2, sw⟩ := lSizes_in hw (List.mem_of_getElem? hs)
      have s64 : s ≤ 64 := by omega
      refine aRun_sound (ctx := [⟨_, popS⟩]) 4000 ?_
      have m1 : IntKind.i64.wrap (64 - (s : Int)) = ((64 - s : Nat) : Int) := by rw [IntKind.wrap_i64]; omega
      have m0 : (0 : Int) ≤ ((64 - s : Nat) : Int) := Int.natCast_nonneg _
      have m2 : Int.fdiv 18446744073709551615 (2 ^ min (64 - s) 64) = ((lMask s : Nat) : Int) := shr_u 18446744073709551615 (64 - s) (by omega)
      have hM : lMask s < 18446744073709551616 := Nat.lt_of_le_of_lt (Nat.div_le_self _ _) (by decide)
      have m3 := and_u v (lMask s) hv hM
      simp only [go_sem, moveS, putPs, srow, fdT, fdH, u64K, intK, patK, errK, List.zip_cons_cons, List.zip_nil_left, List.foldl_cons, List.foldl_nil, m0, m1, m2, m3, t]
      refine sw_loop (ι := Nat × Nat) (fun x => lPer v s w x.1 x.2 = lPer v s w 64 s ∧ x.1 ≤ 64 ∧ 2 * (64 - x.1) ≤ x.2 ∧ x.2 ≤ 200) (fd1 v w s) (fun x => 200 - x.2) (64, s) ⟨rfl, Nat.le_refl 64, by simp only; omega, by simp only; omega⟩ (Wk.renL [0, 1, 2, 3] (pinR 4) (Nat.le_refl 4) (by decide) rfl rfl) ?_
      rintro ⟨f, at_⟩ ⟨i1, i2, i3, i4⟩
      simp only at i1 i2 i3 i4
      refine aRun_sound (ctx := [⟨_, popS⟩]) 4000 ?_
      have h0 : (0 : Int) ≤ (at_ : Int) := Int.natCast_nonneg _
      by_cases hlt : at_ < w
      · obtain ⟨f', rfl⟩ : ∃ f', f = f' + 1 := ⟨f - 1, by omega⟩
        rw [lPer, if_pos hlt] at i1
        have hltI : (at_ : Int) < w := by omega
        have q1 := shr_u v at_ (by omega)
        have q2 := and_u (v / 2 ^ at_) (lMask s) (Nat.lt_of_le_of_lt (Nat.div_le_self _ _) hv) hM
        have q3 : IntKind.i64.wrap ((at_ : Int) + s) = ((at_ + s : Nat) : Int) := by rw [IntKind.wrap_i64]; omega
        by_cases hq : (v / 2 ^ at_ &&& lMask s) = (v &&& lMask s)
        · have hb : (((v / 2 ^ at_ &&& lMask s : Nat) : Int) != ((v &&& lMask s : Nat) : Int)) = false := by rw [hq]; simp
          have hb2 : ((v / 2 ^ at_ &&& lMask s) == (v &&& lMask s)) = true := by rw [hq]; simp
          rw [hb2, Bool.true_and] at i1
          simp only [go_sem, fd1, fdH, u64K, intK, patK, errK, hltI, q1, q2, q3, t, hb, h0]
          exact ⟨(f', at_ + s), ⟨i1, by simp only; omega, by simp only; omega, by simp only; omega⟩, by simp only; omega, Wk.renL [0, 1, 2, 3] (pinR 4) (Nat.le_refl 4) (by decide) rfl rfl⟩
        · have hb : (((v / 2 ^ at_ &&& lMask s : Nat) : Int) != ((v &&& lMask s : Nat) : Int)) = true := by
            simp only [bne_iff_ne, ne_eq]
            exact fun h => hq (Int.ofNat.inj h)
          have hb2 : ((v / 2 ^ at_ &&& lMask s) == (v &&& lMask s)) = false := by simpa using hq
          rw [hb2, Bool.false_and] at i1
          simp only [go_sem, fd1, fdH, u64K, intK, patK, errK, hltI, q1, q2, q3, t, hb, h0]
          refine ⟨fun j r hj hr => ?_, Wk.renL [0, 1, 2, 3] (pinR 4) (Nat.le_refl 4) (by decide) rfl rfl⟩
          by_cases e : j = i
          · subst e
            rw [hs] at hr
            injection hr with hr
            rw [← hr]
            exact i1.symm
          · exact hinv j r (by omega) hr
      · have hltI : ¬ (at_ : Int) < w := by omega
        have hper : lPer v s w 64 s = true := by
          rw [← i1]
          cases f
          · rfl
          · rw [lPer, if_neg hlt]
        have hfirst : lFirst v w = some s := find_at hinv hs hper
        have he : (v &&& lMask s) < 18446744073709551616 := Nat.lt_of_le_of_lt Nat.and_le_left hv
        have heI : (0 : Int) ≤ ((v &&& lMask s : Nat) : Int) ∧ ((v &&& lMask s : Nat) : Int) < 18446744073709551616 := by omega
        obtain ⟨o, ho⟩ : ∃ o, pop (v &&& lMask s) = o := ⟨_, rfl⟩
        have hlF' : lFind v w = (lTurn v s o w 64 0).map fun t => (s, o, t) := by rw [hlF, hfirst]; simp only [ho]
        simp only [go_sem, fd1, fdH, u64K, intK, patK, errK, hltI, pop_run, pop_pan, tU, heI, t, ho]
        refine sw_loop (ι := Nat × Nat) (fun x => lTurn v s o w x.1 x.2 = lTurn v s o w 64 0 ∧ x.1 + x.2 = 64) (fd2 v w s o) (fun x => 64 - x.2) (64, 0) ⟨rfl, rfl⟩ (Wk.renL [0, 1, 2, 3, 116] (pin4 _) (Nat.le_refl 5) (by decide) rfl rfl) ?_
        rintro ⟨f2, tu⟩ ⟨j1, j2⟩
        simp only at j1 j2
        refine aRun_sound (ctx := []) 4000 ?_
        have u0 : (0 : Int) ≤ (tu : Int) := Int.natCast_nonneg _
        by_cases hlt2 : tu < s
        · obtain ⟨f', rfl⟩ : ∃ f', f2 = f' + 1 := ⟨f2 - 1, by omega⟩
          rw [lTurn, if_pos hlt2] at j1
          have hltI2 : (tu : Int) < s := by omega
          have u3 : IntKind.i64.wrap ((tu : Int) + 1) = ((tu + 1 : Nat) : Int) := by rw [IntKind.wrap_i64]; omega
          have swI : (s : Int) ≤ w := by omega
          have s2I : (2 : Int) ≤ s := by omega
          by_cases hm : 1 ≤ o ∧ o < s
          · have hmay : mayF ⟨s, o, tu⟩ w = true := by
              unfold mayF
              simp only [decide_eq_true_eq]
              omega
            have hvq : valQ ⟨s, o, tu⟩ w := by
              unfold valQ
              simp only
              omega
            by_cases heq : lVal s o tu w = v
            · rw [if_pos ⟨hm, heq⟩] at j1
              have hF : lFind v w = some (s, o, tu) := by rw [hlF', ← j1]; rfl
              have hbq : (((lVal s o tu w : Nat) : Int) == (v : Int)) = true := by rw [heq]; simp
              simp only [go_sem, fd2, u64K, intK, patK, errK, hltI2]
              refine sw_draw (ctx := [⟨_, mayS⟩, ⟨_, valueS⟩]) mixed [] (by kernel_rfl) ?_
              simp only [go_sem, patR, may_run, may_pan, value_run, value_pan, hmay, hvq, t, hbq]
              exact .inl ⟨s, o, tu, hF, rfl⟩
            · rw [if_neg (fun h => heq h.2)] at j1
              have hbq : (((lVal s o tu w : Nat) : Int) == (v : Int)) = false := by
                simp only [beq_eq_false_iff_ne, ne_eq]
                exact fun h => heq (Int.ofNat.inj h)
              simp only [go_sem, fd2, u64K, intK, patK, errK, hltI2]
              refine sw_draw (ctx := [⟨_, mayS⟩, ⟨_, valueS⟩]) mixed [] (by kernel_rfl) ?_
              simp only [go_sem, patR, may_run, may_pan, value_run, value_pan, hmay, hvq, t, hbq, u3]
              exact ⟨(f', tu + 1), ⟨j1, by simp only; omega⟩, by simp only; omega, Wk.renL [0, 1, 2, 3, 4] (pin4 _) (Nat.le_refl 5) (by decide) rfl rfl⟩
          · rw [if_neg (fun h => hm h.1)] at j1
            have hmay : mayF ⟨s, o, tu⟩ w = false := by
              unfold mayF
              simp only [decide_eq_false_iff_not]
              omega
            simp only [go_sem, fd2, u64K, intK, patK, errK, hltI2]
            refine sw_draw (ctx := [⟨_, mayS⟩, ⟨_, valueS⟩]) mixed [] (by kernel_rfl) ?_
            simp only [go_sem, patR, may_run, may_pan, hmay, t, u3]
            exact ⟨(f', tu + 1), ⟨j1, by simp only; omega⟩, by simp only; omega, Wk.renL [0, 1, 2, 3, 4] (pin4 _) (Nat.le_refl 5) (by decide) rfl rfl⟩
        · have hltI2 : ¬ (tu : Int) < s := by omega
          have hT : lTurn v s o w 64 0 = none := by
            rw [← j1]
            cases f2
            · rfl
            · rw [lTurn, if_neg hlt2]
          have hF : lFind v w = none := by rw [hlF', hT]; rfl
          simp only [go_sem, fd2, u64K, intK, patK, errK, hltI2]
          exact .inr hF
    · have hn : lFind v w = none := by
        rw [hlF, show lFirst v w = none from find_no fun j r hj hr => hinv j r (by rw [List.length_map, t]; exact hj) hr]
      exact hdone hn
    · obtain ⟨nx, t0, h0⟩ := s
      obtain ⟨h1, h2⟩ := h
      rcases h2 with ⟨rfl, a, o, t', g1, g2, g3⟩ | ⟨rfl, g1, g2, g3⟩
      · exact swy_ret (hret nx h0 a o t' g1 g2 g3)
      · exact swy_exit (hexit nx h0 g1 g2 g3)
  simp only [go_sem, tU]
  refine sw_scope ?_
  refine aRun_sound (ctx := [⟨_, widthS⟩, ⟨_, sizesS⟩]) 4000 ?_
  have hwk : ∀ {nx t h}, Wk ⟨none, 0⟩ ⟨nx, (23, .s (.l (.d (.fn 169 [] [.pd [.v (.int .i64 (w : Int))]])))) :: t, h⟩ ⟨4, fdT w, fdH v w⟩ → tget t 23 = .fn 169 [] [.d (.pd [.v (.int .i64 (w : Int))])] → Wk ⟨none, 0⟩ ⟨nx, t, h⟩ ⟨4, fdT w, fdH v w⟩ := fun h1 h2 => (Wk.fnD (s := ⟨_, _, _⟩) 23 h2 rfl rfl).trans h1
  have hwd : decide ((w : Int) = 32 ∨ (w : Int) = 64) = true := decide_eq_true hwI
  by_cases hbig : w = 32 ∧ 4294967296 ≤ v
  · obtain ⟨rfl, hbig⟩ := hbig
    have hI : (4294967296 : Int) ≤ v := by omega
    have hF : lFind v 32 = none := by unfold lFind; rw [if_pos ⟨rfl, hbig⟩]
    simp only [go_sem, noGotoQ_ret, width_run, width_pan, hwd, hI, hF, findO]
  · have hb : ((w : Int) == 32) = false ∨ ((w : Int) == 32) = true ∧ ¬ (4294967296 : Int) ≤ v := by
      rcases hw with rfl | rfl
      · exact .inr ⟨rfl, by omega⟩
      · exact .inl rfl
    rcases hb with hb | ⟨hb, hb2⟩
    · simp only [go_sem, noGotoQ_ret, width_run, width_pan, hwd, hb, sizes_run, sizes_pan]
      refine SW.wk (nf hbig _ (fun nx h s o t' hF g2 g3 => ?_) (fun nx h hF g2 g3 => ?_) (fun hF => ?_)) (hwk (Wk.renL [0, 16, 32, 48] (by simp) (Nat.le_refl 4) (by decide) rfl rfl) rfl)
      · simp only [go_sem, noGotoQ_ret, fdT, g2, g3, hF, findO, patK, errK]
      · simp only [go_sem, noGotoQ_ret, fdT, g2, g3, hF, findO, patK, errK]
      · simp only [go_sem, noGotoQ_ret, fdT, fdH, u64K, intK, hF, findO, patK, errK]
    · simp only [go_sem, noGotoQ_ret, width_run, width_pan, hwd, hb, hb2, sizes_run, sizes_pan]
      refine SW.wk (nf hbig _ (fun nx h s o t' hF g2 g3 => ?_) (fun nx h hF g2 g3 => ?_) (fun hF => ?_)) (hwk (Wk.renL [0, 16, 32, 48] (by simp) (Nat.le_refl 4) (by decide) rfl rfl) rfl)
      · simp only [go_sem, noGotoQ_ret, fdT, g2, g3, hF, findO, patK, errK]
      · simp only [go_sem, noGotoQ_ret, fdT, g2, g3, hF, findO, patK, errK]
      · simp only [go_sem, noGotoQ_ret, fdT, fdH, u64K, intK, hF, findO, patK, errK]

end Go.Proofs.YtpjlafmhoifkmaaGreat
