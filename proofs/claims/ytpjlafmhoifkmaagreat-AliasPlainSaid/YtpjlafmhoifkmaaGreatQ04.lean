/- The document's check of instructions: limits kept. The document's check of instructions, of every class: which there are. -/
import Derived.Test.YtpjlafmhoifkmaaGreatQ01
import Derived.Test.YtpjlafmhoifkmaaGreatQ02
set_option linter.unusedVariables false
set_option linter.unusedSimpArgs false
namespace Go.Proofs.YtpjlafmhoifkmaaGreat
open Go.RowKit
set_option maxRecDepth 100000

def rcI (x : Ins) (l : List Lim) (i : Nat) : St := ⟨3, [(1, .s (.l (.p 0 0 0))), (2, .s (.l (.p 1 0 0))), (3, tLims.enc l), (4, .s (.l (.p 2 0 0))), (5, iv i)], cnH x (cleanL x (l.take i) (ins0 x.op))⟩
set_option maxHeartbeats 4000000 in
theorem rclean_sw (x : Ins) (h : opQ x.op) : SW Tryz.prog ⟨none, 0⟩ Tryz.f67.ntmps (Tryz.f67.body.getD .skip) ⟨0, zipT 0 [(tAgg insR).enc x], []⟩ (outQ Tryz.prog Tryz.f67.results.toList (.ret (insA (cleanF x)))) := by
  refine aRun_sound (ctx := [⟨_, rlimitsS⟩]) 4000 ?_
  rw [Tryz.ntmps67, Tryz.results67]
  simp only [Tryz.f67, Option.getD_some, zipT]
  have hlen := lims_len h
  have hfq := lims_ok h
  have hF : cleanF x = cleanL x (limitsF x.op) (ins0 x.op) := rfl
  have hlo : limsO x.op = limsV (limitsF x.op) := by unfold limsO; exact if_pos h
  simp only [go_sem, insR, rlimits_run, rlimits_pan, hlo, limsV]
  obtain ⟨l, hl⟩ : ∃ l, limitsF x.op = l := ⟨_, rfl⟩
  rw [hl] at hlen hfq hF
  rw [hl, hF]
  refine sw_loop (ι := Nat) (fun i => i ≤ l.length) (rcI x l) (fun i => l.length - i) 0 (Nat.zero_le _) (Wk.renL [0, 16, 144] (by simp) (Nat.le_refl 3) (by decide) rfl rfl) ?_
  intro i hi
  obtain ⟨o, ho⟩ : ∃ o, cleanL x (l.take i) (ins0 x.op) = o := ⟨_, rfl⟩
  refine aRun_sound (ctx := []) 4000 ?_
  by_cases hlt : i < l.length
  · have hltI : (i : Int) < l.length := by omega
    obtain ⟨f, hf⟩ : ∃ f, l[i]? = some f := ⟨_, List.getElem?_eq_getElem hlt⟩
    have hq := hfq f (List.mem_of_getElem? hf)
    have ei : IntKind.i64.wrap ((i : Int) + 1) = ((i + 1 : Nat) : Int) := by rw [IntKind.wrap_i64]; omega
    have hsn := cleanL_snoc (x := x) hf (ins0 x.op)
    rw [ho] at hsn
    simp only [go_sem, rcI, ho, cnH, insK, insE, hltI]
    refine sw_draw (ctx := [⟨_, rgetS⟩]) mixed [] (by kernel_rfl) ?_
    simp only [go_sem, hf, limR, insR, rget_run, rget_pan, getO, hq]
    refine sw_draw (ctx := [⟨_, rsetS⟩]) mixed [8] (by kernel_rfl) ?_
    simp only [go_sem, hf, limR, insR, rset_run, rset_pan, insA, insE, hq, ei]
    exact ⟨i + 1, by omega, by omega, Wk.renL [0, 1, 2] (by simp) (Nat.le_refl 3) (by decide) rfl (by simp only [rcI, hsn, cnH, insK, insE]; rfl)⟩
  · obtain rfl : i = l.length := by omega
    have hltI : ¬ (l.length : Int) < l.length := by omega
    have ho' : cleanL x l (ins0 x.op) = o := by rw [← ho, List.take_length]
    simp only [go_sem, rcI, ho, ho', cnH, insK, insE, hltI, insA]
theorem en_rclean (args : Array Value) (w : World) : (callFunc 67 args).run Tryz.prog w = .ok (.enter 67 args) w := by go_simp
def rcleanS : Spec Tryz.prog 67 :=
  mk1 _ _ _ Tryz.func67 rfl en_rclean (tAgg insR) ((fun x => opQ x.op)) ((fun x => .ret (insA (cleanF x)))) (by rw [Tryz.ntmps67]; decide) (fun x h => rclean_sw x h)
theorem rclean_run {id : Nat} {h : Heap} {args : List AV} : (rcleanS).run id h args = runP (args1 (tAgg insR) ((fun x => opQ x.op))) ((fun x => .ret (insA (cleanF x)))) h args := rfl
theorem rclean_pan {id : Nat} {h : Heap} {args : List AV} : (rcleanS).pan id h args = panP (args1 (tAgg insR) ((fun x => opQ x.op))) ((fun x => .ret (insA (cleanF x)))) h args := rfl

def rwI (x : Ins) (l : List Lim) (i : Nat) : St := ⟨1, [(1, .s (.l (.p 0 0 0))), (3, tLims.enc l), (4, iv i)], [(0, some (insK x))]⟩
set_option maxHeartbeats 4000000 in
theorem rwithin_sw0 (x : Ins) (h : opQ x.op) : SW Tryz.prog ⟨none, 0⟩ Tryz.f28.ntmps (Tryz.f28.body.getD .skip) ⟨0, zipT 0 [(tAgg insR).enc x], []⟩ (outQ Tryz.prog Tryz.f28.results.toList (.ret (bv (withinF x)))) := by
  refine aRun_sound (ctx := [⟨_, rlimitsS⟩]) 4000 ?_
  rw [Tryz.ntmps28, Tryz.results28]
  simp only [Tryz.f28, Option.getD_some, zipT]
  have hlen := lims_len h
  have hfq := lims_ok h
  have hlo : limsO x.op = limsV (limitsF x.op) := by unfold limsO; exact if_pos h
  simp only [go_sem, insR, rlimits_run, rlimits_pan, hlo, limsV]
  obtain ⟨l, hl⟩ : ∃ l, limitsF x.op = l := ⟨_, rfl⟩
  rw [hl] at hlen hfq ⊢
  refine sw_loop (ι := Nat) (fun i => i ≤ l.length ∧ ∀ j f, j < i → l[j]? = some f → inLim x f = true) (rwI x l) (fun i => l.length - i) 0 ⟨Nat.zero_le _, fun j f hj => absurd hj (Nat.not_lt_zero _)⟩ (Wk.renL [0] (by simp) (Nat.le_refl 1) (by decide) rfl rfl) ?_
  rintro i ⟨hi, hinv⟩
  refine aRun_sound (ctx := []) 4000 ?_
  by_cases hlt : i < l.length
  · have hltI : (i : Int) < l.length := by omega
    obtain ⟨f, hf⟩ : ∃ f, l[i]? = some f := ⟨_, List.getElem?_eq_getElem hlt⟩
    have hq := hfq f (List.mem_of_getElem? hf)
    have ei : IntKind.i64.wrap ((i : Int) + 1) = ((i + 1 : Nat) : Int) := by rw [IntKind.wrap_i64]; omega
    obtain ⟨v, hv⟩ : ∃ v, getF x f.1 = v := ⟨_, rfl⟩
    have hbad : (v < f.2.1 ∨ f.2.2 < v) → withinF x = false := by
      intro hb
      have : inLim x f = false := by
        unfold inLim
        rw [hv, Bool.and_eq_false_iff]
        rcases hb with hb | hb
        · exact .inl (decide_eq_false (by omega))
        · exact .inr (decide_eq_false (by omega))
      have ha : (limitsF x.op).all (inLim x) = false := by
        rw [hl, List.all_eq_false]
        exact ⟨f, List.mem_of_getElem? hf, by rw [this]; simp⟩
      unfold withinF
      rw [ha]
      rfl
    simp only [go_sem, rwI, insK, insE, hltI]
    refine sw_draw (ctx := [⟨_, rgetS⟩]) mixed [] (by kernel_rfl) ?_
    by_cases h1 : v < f.2.1
    · have hw := hbad (.inl h1)
      simp only [go_sem, hf, limR, insR, rget_run, rget_pan, getO, hq, hv, h1, hw]
    · by_cases h2 : f.2.2 < v
      · have hw := hbad (.inr h2)
        simp only [go_sem, hf, limR, insR, rget_run, rget_pan, getO, hq, hv, h1, h2, hw]
      · have hgood : inLim x f = true := by
          unfold inLim
          rw [hv, Bool.and_eq_true]
          exact ⟨decide_eq_true (by omega), decide_eq_true (by omega)⟩
        simp only [go_sem, hf, limR, insR, rget_run, rget_pan, getO, hq, hv, h1, h2, ei]
        refine ⟨i + 1, ⟨by omega, fun j f' hj hj' => ?_⟩, by omega, Wk.renL [0] (by simp) (Nat.le_refl 1) (by decide) rfl rfl⟩
        by_cases e : j = i
        · subst e
          rw [hf] at hj'
          injection hj' with hj'
          rw [← hj']
          exact hgood
        · exact hinv j f' (by omega) hj'
  · obtain rfl : i = l.length := by omega
    have hltI : ¬ (l.length : Int) < l.length := by omega
    have hpos : (0 : Int) < l.length := by
      have := hlen.2
      cases l with
      | nil => cases this
      | cons => simp
    simp only [go_sem, rwI, insK, insE, hltI]
    refine sw_draw (ctx := [⟨_, rcleanS⟩]) mixed [] (by kernel_rfl) ?_
    obtain ⟨y, hy⟩ : ∃ y, cleanF x = y := ⟨_, rfl⟩
    simp only [go_sem, insR, rclean_run, rclean_pan, h, hpos, insA, insE, hy, pure_flat_eql, orPure_eq, flatEq, flat_ins, eqKs]
    have hW : withinF x = decide (y = x) := by
      have ha : (limitsF x.op).all (inLim x) = true := by
        rw [hl, List.all_eq_true]
        intro f hf
        obtain ⟨j, hj, rfl⟩ := List.mem_iff_getElem.1 hf
        exact hinv j _ hj (List.getElem?_eq_getElem hj)
      unfold withinF
      rw [ha, hl, hlen.2, hy]
      simp
    rw [hW, ins_dec]
def rwN (x : Ins) : St := ⟨1, [(1, .s (.l (.p 0 0 0))), (3, nilS), (4, iv 0)], [(0, some (insK x))]⟩
set_option maxHeartbeats 2000000 in
theorem rwithin_no (x : Ins) (h : ¬ opQ x.op) : SW Tryz.prog ⟨none, 0⟩ Tryz.f28.ntmps (Tryz.f28.body.getD .skip) ⟨0, zipT 0 [(tAgg insR).enc x], []⟩ (outQ Tryz.prog Tryz.f28.results.toList (.ret (bv false))) := by
  refine aRun_sound (ctx := [⟨_, rlimitsS⟩]) 4000 ?_
  rw [Tryz.ntmps28, Tryz.results28]
  simp only [Tryz.f28, Option.getD_some, zipT]
  have hlo : limsO x.op = nilS := by unfold limsO; exact if_neg h
  simp only [go_sem, insR, rlimits_run, rlimits_pan, hlo, nilS]
  refine sw_loop (ι := Unit) (fun _ => True) (fun _ => rwN x) (fun _ => 0) () trivial (Wk.renL [0] (by simp) (Nat.le_refl 1) (by decide) rfl rfl) ?_
  intro _ _
  refine aRun_sound (ctx := []) 4000 ?_
  simp only [go_sem, rwN, insK, insE, nilS]
  refine sw_draw (ctx := []) mixed [] (by kernel_rfl) ?_
  simp only [go_sem, nilS]
theorem rwithin_sw (x : Ins) : SW Tryz.prog ⟨none, 0⟩ Tryz.f28.ntmps (Tryz.f28.body.getD .skip) ⟨0, zipT 0 [(tAgg insR).enc x], []⟩ (outQ Tryz.prog Tryz.f28.results.toList (.ret (bv (withinF x)))) := by
  by_cases h : opQ x.op
  · exact rwithin_sw0 x h
  · have e : withinF x = false := by unfold withinF; rw [lims_no h]; simp
    rw [e]
    exact rwithin_no x h
theorem en_rwithin (args : Array Value) (w : World) : (callFunc 28 args).run Tryz.prog w = .ok (.enter 28 args) w := by go_simp
def rwithinS : Spec Tryz.prog 28 :=
  mk1 _ _ _ Tryz.func28 rfl en_rwithin (tAgg insR) ((fun _ => True)) ((fun x => .ret (bv (withinF x)))) (by rw [Tryz.ntmps28]; decide) (fun x _ => rwithin_sw x)
theorem rwithin_run {id : Nat} {h : Heap} {args : List AV} : (rwithinS).run id h args = runP (args1 (tAgg insR) ((fun _ => True))) ((fun x => .ret (bv (withinF x)))) h args := rfl
theorem rwithin_pan {id : Nat} {h : Heap} {args : List AV} : (rwithinS).pan id h args = panP (args1 (tAgg insR) ((fun _ => True))) ((fun x => .ret (bv (withinF x)))) h args := rfl

set_option maxHeartbeats 1000000 in
theorem en_rlogical (args : Array Value) (w : World) : (callFunc 68 args).run Tryz.prog w = .ok (.enter 68 args) w := by go_simp
def rlogicalS : Spec Tryz.prog 68 :=
  mk1 _ _ _ Tryz.func68 rfl en_rlogical (tAgg insR) ((fun _ => True)) ((fun x => .ret (bv (logicalF x)))) (by rw [Tryz.ntmps68]; decide) (fun x _ => by
  refine aRun_sound (ctx := [⟨_, fieldRS⟩]) 4000 ?_
  rw [Tryz.ntmps68, Tryz.results68]
  simp only [Tryz.f68, Option.getD_some, zipT]
  have t : ∀ n : Nat, Int.toNat (n : Int) = n := fun _ => rfl
  have e1 := u64_of x.a
  have l1 := u64F_lt x.a
  have b0 : (0 : Int) ≤ ((u64F x.a : Nat) : Int) ∧ ((u64F x.a : Nat) : Int) < 18446744073709551616 := by omega
  obtain ⟨w, hw⟩ : ∃ w, wN x.x = w := ⟨_, rfl⟩
  have hw3 : w = 32 ∨ w = 64 := by rw [← hw]; cases x.x <;> simp [wN]
  have hfe := fieldR_err (v := u64F x.a) hw3
  obtain ⟨A, hA⟩ : ∃ A, (fieldR (u64F x.a) w).1 = A := ⟨_, rfl⟩
  have hwi : (if x.x then 64 else 32) = w := hw
  by_cases h3 : (lFind (u64F x.a) w).isSome = true
  · have hF : fieldR (u64F x.a) w = (A, 0) := by rw [← hA]; exact Prod.ext rfl (by rw [hfe, if_pos h3])
    cases hx : x.x
    · have hw2 : w = 32 := by rw [← hw, hx]; rfl
      subst hw2
      have hL : logicalF x = decide (0 ≤ x.a) := by unfold logicalF; rw [hwi, h3, hx]; simp
      rw [hL]
      by_cases h4 : 0 ≤ x.a
      · simp only [go_sem, insR, hx, e1, tU, fieldR_run, fieldR_pan, b0.1, b0.2, true_or, or_true, t, t32, hF, fieldO, h4]
      · simp only [go_sem, insR, hx, e1, tU, fieldR_run, fieldR_pan, b0.1, b0.2, true_or, or_true, t, t32, hF, fieldO, h4]
    · have hw2 : w = 64 := by rw [← hw, hx]; rfl
      subst hw2
      have hL : logicalF x = true := by unfold logicalF; rw [hwi, h3, hx]; simp
      simp only [go_sem, insR, hx, e1, tU, fieldR_run, fieldR_pan, b0.1, b0.2, true_or, or_true, t, t64, hF, fieldO, hL]
  · have hF : fieldR (u64F x.a) w = (A, 20) := by rw [← hA]; exact Prod.ext rfl (by rw [hfe, if_neg h3])
    have hL : logicalF x = false := by unfold logicalF; rw [hwi]; simp at h3; simp [h3]
    cases hx : x.x
    · have hw2 : w = 32 := by rw [← hw, hx]; rfl
      subst hw2
      simp only [go_sem, insR, hx, e1, tU, fieldR_run, fieldR_pan, b0.1, b0.2, true_or, or_true, t, t32, hF, fieldO, hL]
    · have hw2 : w = 64 := by rw [← hw, hx]; rfl
      subst hw2
      simp only [go_sem, insR, hx, e1, tU, fieldR_run, fieldR_pan, b0.1, b0.2, true_or, or_true, t, t64, hF, fieldO, hL])
theorem rlogical_run {id : Nat} {h : Heap} {args : List AV} : (rlogicalS).run id h args = runP (args1 (tAgg insR) ((fun _ => True))) ((fun x => .ret (bv (logicalF x)))) h args := rfl
theorem rlogical_pan {id : Nat} {h : Heap} {args : List AV} : (rlogicalS).pan id h args = panP (args1 (tAgg insR) ((fun _ => True))) ((fun x => .ret (bv (logicalF x)))) h args := rfl

end Go.Proofs.YtpjlafmhoifkmaaGreat

namespace Go.Proofs.YtpjlafmhoifkmaaGreat
open Go.RowKit
set_option maxRecDepth 100000

set_option maxHeartbeats 4000000 in
theorem rthere22 (xx ss : Bool) (rd rn rm ra a b c : Int) : SW Tryz.prog ⟨none, 0⟩ Tryz.f29.ntmps (Tryz.f29.body.getD .skip) ⟨0, zipT 0 [(tAgg insR).enc ⟨22, xx, ss, rd, rn, rm, ra, a, b, c⟩], []⟩ (outQ Tryz.prog Tryz.f29.results.toList (.ret (bv (thereF ⟨22, xx, ss, rd, rn, rm, ra, a, b, c⟩)))) := by
  refine aRun_sound (ctx := [⟨_, rsizedS⟩]) 4000 ?_
  rw [Tryz.ntmps29, Tryz.results29]
  simp only [Tryz.f29, Option.getD_some, zipT]
  have e : thereF ⟨22, xx, ss, rd, rn, rm, ra, a, b, c⟩ = (sizedF ⟨22, xx, ss, rd, rn, rm, ra, a, b, c⟩ && decide (¬ a = 4) && decide (¬ a = 5)) := rfl
  rw [e]
  have h31 : 31 < a ∨ ¬ 31 < a := Decidable.em _
  cases hq : sizedF ⟨22, xx, ss, rd, rn, rm, ra, a, b, c⟩ <;> cases xx <;> simp only [go_sem, insR, rsized_run, rsized_pan, hq]
  all_goals
    repeat' (first | (refine And.intro ?_ ?_) | (refine fun _ => ?_))
    all_goals first | rfl | (exfalso; omega) | (simp [*, beq_dec, bne_dec]; done)
set_option maxHeartbeats 8000000 in
theorem rthere21 (xx ss : Bool) (rd rn rm ra a b c : Int) (hr : 0 ≤ ra ∧ ra ≤ 3) : SW Tryz.prog ⟨none, 0⟩ Tryz.f29.ntmps (Tryz.f29.body.getD .skip) ⟨0, zipT 0 [(tAgg insR).enc ⟨21, xx, ss, rd, rn, rm, ra, a, b, c⟩], []⟩ (outQ Tryz.prog Tryz.f29.results.toList (.ret (bv (thereF ⟨21, xx, ss, rd, rn, rm, ra, a, b, c⟩)))) := by
  refine aRun_sound (ctx := [⟨_, rsizedS⟩]) 4000 ?_
  rw [Tryz.ntmps29, Tryz.results29]
  simp only [Tryz.f29, Option.getD_some, zipT]
  have e : thereF ⟨21, xx, ss, rd, rn, rm, ra, a, b, c⟩ = idxF ⟨21, xx, ss, rd, rn, rm, ra, a, b, c⟩ := rfl
  rw [e]
  have h31 : 31 < a ∨ ¬ 31 < a := Decidable.em _
  have t0 : (0 : Int).tmod 2 = 0 := rfl
  have t1 : (1 : Int).tmod 2 = 1 := rfl
  have t2 : (2 : Int).tmod 2 = 0 := rfl
  have t3 : (3 : Int).tmod 2 = 1 := rfl
  have h4 : ra = 0 ∨ ra = 1 ∨ ra = 2 ∨ ra = 3 := by omega
  obtain ⟨q, hq⟩ : ∃ q, sizedF ⟨21, xx, ss, rd, rn, rm, ra, a, b, c⟩ = q := ⟨_, rfl⟩
  rcases h4 with rfl | rfl | rfl | rfl <;> cases q <;> cases xx <;> simp only [go_sem, insR, rsized_run, rsized_pan, hq, t0, t1, t2, t3]
  all_goals
    repeat' (first | (refine And.intro ?_ ?_) | (refine fun _ => ?_))
    all_goals first | rfl | (exfalso; omega) | (unfold idxF; rw [hq]; simp [*]; done) | (unfold idxF; rw [hq]; simp [*, beq_dec, bne_dec]; done) | (unfold idxF; rw [hq]; simp [*]; omega)
set_option maxHeartbeats 4000000 in
theorem rthere5 (xx ss : Bool) (rd rn rm ra a b c : Int) : SW Tryz.prog ⟨none, 0⟩ Tryz.f29.ntmps (Tryz.f29.body.getD .skip) ⟨0, zipT 0 [(tAgg insR).enc ⟨5, xx, ss, rd, rn, rm, ra, a, b, c⟩], []⟩ (outQ Tryz.prog Tryz.f29.results.toList (.ret (bv (thereF ⟨5, xx, ss, rd, rn, rm, ra, a, b, c⟩)))) := by
  refine aRun_sound (ctx := []) 4000 ?_
  rw [Tryz.ntmps29, Tryz.results29]
  simp only [Tryz.f29, Option.getD_some, zipT]
  have e : thereF ⟨5, xx, ss, rd, rn, rm, ra, a, b, c⟩ = ((xx || decide (a ≤ 31)) && (xx || decide (c ≤ 31))) := rfl
  rw [e]
  have h31 : (31 < a ∧ decide (a ≤ 31) = false) ∨ (¬ 31 < a ∧ decide (a ≤ 31) = true) := by
    by_cases h : 31 < a
    · exact .inl ⟨h, by simp; omega⟩
    · exact .inr ⟨h, by simp; omega⟩
  have h32 : (c < 32 ∧ decide (c ≤ 31) = true) ∨ (¬ c < 32 ∧ decide (c ≤ 31) = false) := by
    by_cases h : c < 32
    · exact .inl ⟨h, by simp; omega⟩
    · exact .inr ⟨h, by simp; omega⟩
  rcases h31 with ⟨ha, ea⟩ | ⟨ha, ea⟩ <;> rcases h32 with ⟨hc, ec⟩ | ⟨hc, ec⟩ <;> cases xx <;> simp only [go_sem, insR, ha, hc, ea, ec]
  all_goals
    repeat' (first | (refine And.intro ?_ ?_) | (refine fun _ => ?_))
    all_goals first | rfl | (exfalso; omega) | (simp [*]; done)
set_option maxHeartbeats 16000000 in
theorem rthere_sw (x : Ins) (hw : withinF x = true) : SW Tryz.prog ⟨none, 0⟩ Tryz.f29.ntmps (Tryz.f29.body.getD .skip) ⟨0, zipT 0 [(tAgg insR).enc x], []⟩ (outQ Tryz.prog Tryz.f29.results.toList (.ret (bv (thereF x)))) := by
  have h := within_op hw
  have hc := wi_c hw
  obtain ⟨op, xx, ss, rd, rn, rm, ra, a, b, c⟩ := x
  simp only at h hc
  clear hw
  by_cases h22 : op = 22
  · subst h22
    exact rthere22 xx ss rd rn rm ra a b c
  by_cases h5 : op = 5
  · subst h5
    exact rthere5 xx ss rd rn rm ra a b c
  by_cases h21 : op = 21
  · exact h21 ▸ rthere21 xx ss rd rn rm ra a b c (hc.2.1 h21)
  refine aRun_sound (ctx := [⟨_, rlogicalS⟩, ⟨_, rpairS⟩, ⟨_, rsizedS⟩, ⟨_, rexclS⟩, ⟨_, rtwoS⟩]) 4000 ?_
  rw [Tryz.ntmps29, Tryz.results29]
  simp only [Tryz.f29, Option.getD_some, zipT]
  have hop : op = 1 ∨ op = 2 ∨ op = 3 ∨ op = 4 ∨ op = 6 ∨ op = 7 ∨ op = 8 ∨ op = 9 ∨ op = 10 ∨ op = 11 ∨ op = 12 ∨ op = 13 ∨ op = 14 ∨ op = 15 ∨ op = 16 ∨ op = 17 ∨ op = 18 ∨ op = 19 ∨ op = 20 ∨ op = 23 ∨ op = 24 ∨ op = 25 ∨ op = 26 ∨ op = 27 ∨ op = 28 ∨ op = 29 ∨ op = 30 ∨ op = 31 ∨ op = 32 := by
    omega
  have h31 : 31 < a ∨ ¬ 31 < a := Decidable.em _
  rcases hop with rfl | rfl | rfl | rfl | rfl | rfl | rfl | rfl | rfl | rfl | rfl | rfl | rfl | rfl | rfl | rfl | rfl | rfl | rfl | rfl | rfl | rfl | rfl | rfl | rfl | rfl | rfl | rfl | rfl
  all_goals
    simp at hc
    rcases h31 with ha | ha <;> cases xx <;> simp only [go_sem, insR, ha, hc, and_self, rlogical_run, rlogical_pan, rpair_run, rpair_pan, rsized_run, rsized_pan, rexcl_run, rexcl_pan, rtwo_run, rtwo_pan]
    all_goals
      repeat' (first | (refine And.intro ?_ ?_) | (refine fun _ => ?_))
      all_goals first | rfl | (exfalso; omega) | (unfold thereF; simp [*]; done) | (unfold thereF; simp [*, beq_dec, bne_dec]; done) | (unfold thereF; simp [*]; omega)
theorem en_rthere (args : Array Value) (w : World) : (callFunc 29 args).run Tryz.prog w = .ok (.enter 29 args) w := by go_simp
def rthereS : Spec Tryz.prog 29 :=
  mk1 _ _ _ Tryz.func29 rfl en_rthere (tAgg insR) ((fun x => withinF x = true)) ((fun x => .ret (bv (thereF x)))) (by rw [Tryz.ntmps29]; decide) (fun x h => rthere_sw x h)
theorem rthere_run {id : Nat} {h : Heap} {args : List AV} : (rthereS).run id h args = runP (args1 (tAgg insR) ((fun x => withinF x = true))) ((fun x => .ret (bv (thereF x)))) h args := rfl
theorem rthere_pan {id : Nat} {h : Heap} {args : List AV} : (rthereS).pan id h args = panP (args1 (tAgg insR) ((fun x => withinF x = true))) ((fun x => .ret (bv (thereF x)))) h args := rfl
theorem en_rcheck (args : Array Value) (w : World) : (callFunc 10 args).run Tryz.prog w = .ok (.enter 10 args) w := by go_simp
def rcheckS : Spec Tryz.prog 10 :=
  mk1 _ _ _ Tryz.func10 rfl en_rcheck (tAgg insR) ((fun _ => True)) ((fun x => .ret (iv (icheckF x)))) (by rw [Tryz.ntmps10]; decide) (fun x _ => by
  refine aRun_sound (ctx := [⟨_, rwithinS⟩, ⟨_, rthereS⟩]) 4000 ?_
  rw [Tryz.ntmps10, Tryz.results10]
  simp only [Tryz.f10, Option.getD_some, zipT]
  unfold icheckF
  cases h1 : withinF x
  · simp only [go_sem, insR, rwithin_run, rwithin_pan, h1, Bool.false_and]
  · cases h2 : thereF x
    · simp only [go_sem, insR, rwithin_run, rwithin_pan, rthere_run, rthere_pan, h1, h2, Bool.true_and]
    · simp only [go_sem, insR, rwithin_run, rwithin_pan, rthere_run, rthere_pan, h1, h2, Bool.true_and])
theorem rcheck_run {id : Nat} {h : Heap} {args : List AV} : (rcheckS).run id h args = runP (args1 (tAgg insR) ((fun _ => True))) ((fun x => .ret (iv (icheckF x)))) h args := rfl
theorem rcheck_pan {id : Nat} {h : Heap} {args : List AV} : (rcheckS).pan id h args = panP (args1 (tAgg insR) ((fun _ => True))) ((fun x => .ret (iv (icheckF x)))) h args := rfl

end Go.Proofs.YtpjlafmhoifkmaaGreat
