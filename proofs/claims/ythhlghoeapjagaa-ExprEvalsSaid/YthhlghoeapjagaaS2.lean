/- expr.Syms: a loop over an iterator that collects. -/
import Derived.Maps.AppendAt
import Derived.Test.YthhlghoeapjagaaS3
set_option linter.unusedVariables false
set_option linter.unusedSimpArgs false
namespace Go.Proofs.Ythhlghoeapjagaa
open Go.RowKit Go.Shelf

attribute [local go_sem] Oper.semAt_some

def syF (ts : List Term) : List ByteArray := (ts.filter fun t => decide (t.kind = 2)).map (·.sym)
def symsF (ts : List Term) : List ByteArray := if checkF ts = 0 then syF ts else []
theorem syF_hit (pre : List Term) {t : Term} (h : t.kind = 2) : syF (pre ++ [t]) = syF pre ++ [t.sym] := by simp [syF, h]
theorem syF_miss (pre : List Term) {t : Term} (h : ¬ t.kind = 2) : syF (pre ++ [t]) = syF pre := by simp [syF, h]
theorem syF_len (ts : List Term) : (syF ts).length ≤ ts.length := by simp only [syF, List.length_map]; exact List.length_filter_le _ _

theorem infoS : (Try.prog.info? 9).map (fun i => (i.zero, i.size, i.bytes)) = some (some (.string ⟨#[]⟩), 1, 16) := by kernel_rfl

set_option maxRecDepth 100000 in
set_option maxHeartbeats 4000000 in
theorem syms_in (A : Option Addr) (cap : Nat) (ts : List Term) (w : World) (hT : Terms w w.heap.size A ts) (hl : ts.length ≤ 1000000) (hsz : ∀ t ∈ ts, t.sym.size ≤ maxLen) :
    CallsIn Fence.wide 9 Try.prog 21 #[.slice A ts.length cap] w fun e W' => ∃ B v, e = .returned (.func (.func 58) #[] #[.pointer (some ⟨B, 0, none⟩)]) ∧ w.heap.size ≤ B ∧
      Boxed W' B 46 v ∧ W'.ownsRow w.heap.size 9 1 v (symsF ts).length ((symsF ts).map Value.string) ∧ Below w.heap.size w W' := by
  obtain ⟨i0, hi, hz0, hz1, hz2⟩ := info_parts infoS
  have mx : (1000000 : Nat) ≤ maxLen := by unfold maxLen; omega
  refine callsIn_of_wp_marks Try.func21 rfl trivial ?_ rfl
  simp only [Try.ntmps21, List.size_toArray, List.length_cons, List.length_nil, Nat.reduceAdd, Nat.reduceSub, Array.replicate_succ, Array.replicate_zero, List.push_toArray, List.append_toArray, List.nil_append, List.cons_append]
  have hTa : Terms (w.alloc (.cells #[.slice none 0 0] 46)) (w.alloc (.cells #[.slice none 0 0] 46)).heap.size A ts := SL.more (SL.below hT ((Below.refl _ w).alloc (Nat.le_refl _) _)) (by simp)
  have bO := Boxed.new w 46 (.slice none 0 0)
  have hB0 : Below w.heap.size w (w.alloc (.cells #[.slice none 0 0] 46)) := (Below.refl _ w).alloc (Nat.le_refl _) _
  have HC := check_any A cap ts _ hTa (by omega) hsz
  have hs0 : (w.alloc (.cells #[.slice none 0 0] 46)).heap.size = w.heap.size + 1 := by simp
  by_cases hc : checkF ts = 0
  · rw [hc] at HC
    gi_wp2_with (first
      | (refine ⟨trivial, ?_⟩; gi_at_call 22; refine (callsIn_wide.2 HC).mono ?_; clear HC; rintro e w1 ⟨rfl, hb1⟩)
      | (refine ⟨trivial, ?_⟩; gi_at_call 45; refine (valuesT_in Fence.wide _ trivial rfl _ _ _ _).mono ?_; rintro e w2 ⟨rfl, rfl⟩))
    have bO1 : Boxed w1 w.heap.size 46 (.slice none 0 0) := (hb1.block _ (by simp)).trans bO
    have hB1 : Below w.heap.size w w1 := hB0.trans (hb1.mono (by simp))
    have hs1 : w.heap.size < w1.heap.size := bO1.lt
    have bN := Boxed.new w1 34 (.slice A ts.length cap)
    have bO2 := bO1.alloc (.cells #[.slice A ts.length cap] 34)
    have hB2 : Below w.heap.size w (w1.alloc (.cells #[.slice A ts.length cap] 34)) := hB1.alloc (by omega) _
    have hsz2 : (w1.alloc (.cells #[.slice A ts.length cap] 34)).heap.size = w1.heap.size + 1 := by simp
    obtain ⟨W0, hW0⟩ : ∃ W0, w1.alloc (.cells #[.slice A ts.length cap] 34) = W0 := ⟨_, rfl⟩
    rw [hW0] at bN bO2 hB2 hsz2 ⊢
    clear hW0
    refine wpIn_rangeFunc_ownH rfl (by omega) (gf := 57) (lb := #[.pointer (some ⟨w1.heap.size, 0, none⟩)]) rfl trivial (enters_of Try.func57 (by kernel_rfl) rfl)
      (valuesT_stops Fence.wide (9 - 1) trivial rfl (by omega) w1.heap.size w.heap.size cap A ts (by omega) W0 (by omega) (by omega) bN.cell (SL.below hT hB2)) belowK_t (belowK_b (by omega)) (Below.refl _ _) (fun _ => rfl)
      (fun pre W => (∃ v, Boxed W w.heap.size 46 v ∧ W.ownsRow w.heap.size 9 1 v (syF pre).length ((syF pre).map Value.string) ∧ True) ∧ Below w.heap.size w W)
      (fun _ _ _ => False)
      (OwnFrom.and (Own.from (holdsRow_own w.heap.size w.heap.size 46 9 1 (fun pre => (syF pre).length) (fun pre => (syF pre).map Value.string) (fun _ _ => True)) _) (ownFrom_below (Nat.le_refl _) (by omega)))
      (fun _ _ _ _ _ hs _ _ => hs)
      ⟨⟨_, bO2, World.ownsRow_nil _ _ _ _, trivial⟩, hB2⟩
      (fun x a' W => ∃ Bx, w.heap.size < Bx ∧ W.heap[Bx]? = some (.cells #[.int .i64 x.kind, .int .i64 x.n, .string x.sym] 57 (0, 0)) ∧ a' = { tmps := #[.slice A ts.length cap, undef, .nilFunc, .pointer (some ⟨w.heap.size, 0, none⟩), .pointer (some ⟨Bx, 0, none⟩), .slice A ts.length cap, .int .i64 0, .bool true, .slice A ts.length cap, .func (.func 57) #[] #[.pointer (some ⟨w1.heap.size, 0, none⟩)], (.agg #[.int .i64 x.kind, .int .i64 x.n, .string x.sym]), undef, undef, undef, undef, undef, undef, undef, undef, undef, undef], defers := [] })
      (fun x a' _ X Y row hs hg hr => by
        obtain ⟨Bx, h1, h2, h3⟩ := hs
        refine ⟨Bx, h1, (hg.block Bx (Array.getElem?_eq_some_iff.1 h2).1 (fun e => ?_)).trans h2, h3⟩
        obtain ⟨_, o, ho, hcc⟩ := hr Bx e.symm
        rw [h2] at ho; cases ho; cases hcc)
      ?assign ?body ?done ?stop
    case assign =>
      rintro l pre x W K ⟨⟨v, hv, hrow, _⟩, hB⟩ hK
      simp only [Term.agg]
      gi_wp2
      exact hK _ _ ((KeepsOthers.alloc _ _).from _) ((Below.refl _ W).alloc hB.size _) ⟨⟨v, hv.alloc _, hrow.alloc _, trivial⟩, hB.alloc hB.size _⟩ ⟨W.heap.size, hv.lt, World.alloc_heap_new W _, rfl⟩
    case body =>
      rintro l pre x a' W hl' ⟨r, hr⟩ ⟨⟨v, hv, hrow, _⟩, hB⟩ ⟨Bx, hBx, bX, rfl⟩ hlt
      have hcv := hv.cell
      have cX0 : W.cell? ⟨Bx, 0, none⟩ = some (.int .i64 x.kind) := by simp [World.cell?, bX]
      have cX2 : W.cell? ⟨Bx, 2, none⟩ = some (.string x.sym) := by simp [World.cell?, bX]
      have hpl := syF_len pre
      gi_wp2_with (gi_at_builtin; refine wpListIn_append_own _ rfl _ _ 46 rfl w.heap.size 9 i0 (.string ⟨#[]⟩) 1 16 Try.underlying46 hi hz0 hz1 hz2 rfl (by decide) _ _ _ rfl (hrow.alloc _) ⟨W.heap.size, 0, none⟩ 1 1 [.string x.sym] rfl rfl (cell_one_new _ _ _) (by simp [Value.oneCell']) (by omega) (by omega) (by have := hB.size; simp; omega) ?_; intro v' w3 hown' hgrow _; obtain ⟨g', cap', rfl⟩ := ownsRow_succ hown'; obtain ⟨hv1, hv2, hr2, hk2, hb2⟩ := hv.appended (by decide) hrow hB.size (Nat.le_refl _) hown' hgrow; have hc1 := hv1.cell; have hf1 := hv1.frozen)
      · have hx : x.kind = 2 := by simpa using ‹(x.kind == 2) = true›
        exact ⟨hk2.from _, hb2, ⟨_, hv2, by rw [syF_hit pre hx]; simpa using hr2, trivial⟩, hB.trans hb2⟩
      · have hx : ¬ x.kind = 2 := by simpa using ‹(x.kind == 2) = false›
        exact ⟨KeepsFrom.refl _ _, Below.refl _ _, ⟨v, hv, by rw [syF_miss pre hx]; exact hrow, trivial⟩, hB⟩
    case done =>
      rintro D zs W hD rfl ⟨⟨v, hv, hrow, _⟩, hB⟩ hK
      have cS := hv.cell
      obtain ⟨a, ln, cp, rfl⟩ : ∃ a ln cp, v = .slice a ln cp := by rcases hrow.2 with ⟨rfl, _⟩ | ⟨g, cap, cur, rfl, _⟩ <;> exact ⟨_, _, _, rfl⟩
      have hDl := (Array.getElem?_eq_some_iff.1 hK).1
      gi_wp2_with (refine ⟨trivial, ?_⟩; gi_at_call 46; refine (valuesS_in Fence.wide _ trivial rfl _ _ _ _).mono ?_; rintro e w2 ⟨rfl, rfl⟩)
      have hK' : (W.alloc (.cells #[.slice a ln cp] 46)).heap[D]? = some (.deferred (some [])) := (Below.heap_alloc W _ D hDl).trans hK
      refine ⟨by simp, .inl ⟨_, _, rfl, run_takeDeferred hK', ?_⟩⟩
      refine ⟨_, results_tmp rfl _ _ _, W.heap.size, _, rfl, hB.size, (Boxed.new W _ _).kept (grownBy_putObj' _ D _) (fun e => by cases e; omega), ?_, (hB.alloc hB.size _).trans (belowK_b (w := w) (Nat.le_refl _) _ D _ _ (by omega) hK' rfl rfl)⟩
      rw [symsF, if_pos hc]
      exact ownsRow_putObj (hrow.alloc _) _ hK' rfl
    case stop =>
      rintro D c pre W _ _ h _
      exact h.elim
  · have hne : (checkF ts == 0) = false := by simpa using hc
    gi_wp2_with (first
      | (refine ⟨trivial, ?_⟩; gi_at_call 22; refine (callsIn_wide.2 HC).mono ?_; clear HC; rintro e w1 ⟨rfl, hb1⟩; have bO1 : Boxed w1 w.heap.size 46 (.slice none 0 0) := (hb1.block _ (by simp)).trans bO; have cO := bO1.cell)
      | (refine ⟨trivial, ?_⟩; gi_at_call 46; refine (valuesS_in Fence.wide _ trivial rfl _ _ _ _).mono ?_; rintro e w2 ⟨rfl, rfl⟩))
    have hs1 : w.heap.size < w1.heap.size := bO1.lt
    refine ⟨_, results_tmp rfl _ _ _, w1.heap.size, _, rfl, by omega, Boxed.new w1 _ _, ?_, (hB0.trans (hb1.mono (by simp))).alloc (by omega) _⟩
    rw [symsF, if_neg hc]
    exact World.ownsRow_nil _ _ _ _

end Go.Proofs.Ythhlghoeapjagaa
