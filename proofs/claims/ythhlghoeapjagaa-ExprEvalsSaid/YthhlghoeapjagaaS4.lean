/- slices.AppendSeq, slices.Collect over the strings of a slice. -/
import Derived.Test.YthhlghoeapjagaaS3
set_option linter.unusedVariables false
set_option linter.unusedSimpArgs false
namespace Go.Proofs.Ythhlghoeapjagaa
open Go.RowKit Go.Shelf

attribute [local go_sem] Oper.semAt_some

theorem infoS' : (Try.prog.info? 9).map (fun i => (i.zero, i.size, i.bytes)) = some (some (.string ⟨#[]⟩), 1, 16) := by kernel_rfl

def seqV (B : Nat) : Value := .func (.func 58) #[] #[.pointer (some ⟨B, 0, none⟩)]

set_option maxRecDepth 100000 in
set_option maxHeartbeats 4000000 in
theorem appendSeq_in (B : Nat) (v : Value) (xs : List ByteArray) (w : World) (hBx : Boxed w B 46 v) (hS : Strs w.heap.size w v xs) (hl : xs.length ≤ 1000000) :
    CallsIn Fence.wide 8 Try.prog 49 #[.slice none 0 0, .func (.func 58) #[] #[.pointer (some ⟨B, 0, none⟩)]] w fun e W' => ∃ u, e = .returned u ∧
      W'.ownsRow w.heap.size 9 1 u xs.length (xs.map Value.string) ∧ Below w.heap.size w W' := by
  obtain ⟨i0, hi, hz0, hz1, hz2⟩ := info_parts infoS'
  have mx : (1000000 : Nat) ≤ maxLen := by unfold maxLen; omega
  refine callsIn_of_wp_marks Try.func49 rfl trivial ?_ rfl
  simp only [Try.ntmps49, List.size_toArray, List.length_cons, List.length_nil, Nat.reduceAdd, Nat.reduceSub, Array.replicate_succ, Array.replicate_zero, List.push_toArray, List.append_toArray, List.nil_append, List.cons_append]
  gi_wp2
  have bO := Boxed.new w 46 (.slice none 0 0)
  have bV := hBx.alloc (.cells #[.slice none 0 0] 46)
  have hBl := hBx.lt
  have hB0 : Below w.heap.size w (w.alloc (.cells #[.slice none 0 0] 46)) := (Below.refl _ w).alloc (Nat.le_refl _) _
  have hsz : (w.alloc (.cells #[.slice none 0 0] 46)).heap.size = w.heap.size + 1 := by simp
  refine wpIn_rangeFunc_ownG rfl (by omega) (gf := 58) (lb := #[.pointer (some ⟨B, 0, none⟩)]) rfl trivial (enters_of Try.func58 (by kernel_rfl) rfl)
    (valuesS_stops Fence.wide (8 - 1) trivial rfl (by omega) B w.heap.size v xs (by omega) _ (by omega) (by omega) bV.cell (hS.below hB0)) belowK_t (belowK_b (by omega)) (Below.refl _ _) (fun _ => rfl)
    (fun (pre : List ByteArray) W => (∃ v, Boxed W w.heap.size 46 v ∧ W.ownsRow w.heap.size 9 1 v pre.length (pre.map Value.string) ∧ True) ∧ Below w.heap.size w W)
    (fun _ _ _ => False)
    (OwnFrom.and (Own.from (holdsRow_own w.heap.size w.heap.size 46 9 1 (fun pre : List ByteArray => pre.length) (fun pre : List ByteArray => pre.map Value.string) (fun _ _ => True)) _) (ownFrom_below (Nat.le_refl _) (by omega)))
    (fun _ _ _ _ _ hs _ _ => hs)
    ⟨⟨_, bO, World.ownsRow_nil _ _ _ _, trivial⟩, hB0⟩
    (fun x => { tmps := #[.slice none 0 0, .func (.func 58) #[] #[.pointer (some ⟨B, 0, none⟩)], .pointer (some ⟨w.heap.size, 0, none⟩), undef, .slice none 0 0, .string x, .func (.func 58) #[] #[.pointer (some ⟨B, 0, none⟩)], .string x, undef, undef, undef, undef, undef], defers := [] }) ?assign ?body ?done ?stop
  case assign =>
    intro l x W K hK
    gi_wp2
    exact hK
  case body =>
    rintro l pre x W ⟨⟨u, hv, hrow, _⟩, hB⟩ hlt
    have hc := hv.cell
    gi_wp2_with (gi_at_builtin; refine wpListIn_append_own _ rfl _ _ 46 rfl w.heap.size 9 i0 (.string ⟨#[]⟩) 1 16 Try.underlying46 hi hz0 hz1 hz2 rfl (by decide) _ _ _ rfl (hrow.alloc _) ⟨W.heap.size, 0, none⟩ 1 1 [.string x] rfl rfl (cell_one_new _ _ _) (by simp [Value.oneCell']) (by omega) (by omega) (by have := hB.size; simp; omega) ?_; intro v' w3 hown' hgrow _; obtain ⟨g', cap', rfl⟩ := ownsRow_succ hown'; obtain ⟨hv1, hv2, hr2, hk2, hb2⟩ := hv.appended (by decide) hrow hB.size (Nat.le_refl _) hown' hgrow; have hc1 := hv1.cell; have hf1 := hv1.frozen)
    exact ⟨hk2.from _, hb2, ⟨_, hv2, by simpa using hr2, trivial⟩, hB.trans hb2⟩
  case done =>
    rintro D zs W hD rfl ⟨⟨u, hv, hrow, _⟩, hB⟩ hK
    have cS := hv.cell
    gi_wp2
    refine ⟨by simp, .inl ⟨_, _, rfl, run_takeDeferred hK, ?_⟩⟩
    exact ⟨_, results_tmp rfl _ _ _, u, rfl, ownsRow_putObj hrow _ hK rfl, hB.trans (belowK_b (w := w) (Nat.le_refl _) W D _ _ (by omega) hK rfl rfl)⟩
  case stop =>
    rintro D c pre W _ _ h _
    exact h.elim

set_option maxHeartbeats 1000000 in
theorem collect_any (B : Nat) (v : Value) (xs : List ByteArray) (w : World) (hBx : Boxed w B 46 v) (hS : Strs w.heap.size w v xs) (hl : xs.length ≤ 1000000) :
    Calls Try.prog 25 #[.func (.func 58) #[] #[.pointer (some ⟨B, 0, none⟩)]] w fun e W' => ∃ u, e = .returned u ∧
      W'.ownsRow w.heap.size 9 1 u xs.length (xs.map Value.string) ∧ Below w.heap.size w W' := by
  have HC := callsIn_wide.1 (appendSeq_in B v xs w hBx hS hl)
  go_enter Try.func25, Try.ntmps25
  go_wp2_with (go_at_call 49; refine HC.mono ?_; rintro e w' ⟨u, rfl, hr, hb⟩)
  go_ret
  exact ⟨u, rfl, hr, hb⟩

end Go.Proofs.Ythhlghoeapjagaa
