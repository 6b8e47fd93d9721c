/- slices.Equal over two slices of the same strings; the reference's Syms. -/
import Derived.BigQuiet
import Derived.Deep.QuietTactic
import Derived.Test.YthhlghoeapjagaaS4
import Derived.Test.YthhlghoeapjagaaS2
import Derived.Test.YthhlghoeapjagaaRf
set_option linter.unusedVariables false
set_option linter.unusedSimpArgs false
namespace Go.Proofs.Ythhlghoeapjagaa
open Go.RowKit Go.Shelf

set_option maxRecDepth 100000 in
set_option maxHeartbeats 2000000 in
theorem eqS_any (n₀ : Nat) (v1 v2 : Value) (xs : List ByteArray) (w : World) (h1 : Strs n₀ w v1 xs) (h2 : Strs n₀ w v2 xs) (hl : xs.length ≤ 1000000) :
    Calls Try.prog 24 #[v1, v2] w fun e w' => e = .returned (.bool true) ∧ Below w.heap.size w w' := by
  obtain ⟨A1, c1, rfl, h1⟩ := h1
  obtain ⟨A2, c2, rfl, h2⟩ := h2
  have mixed : Try.prog.follows .mixedOrders = true := by kernel_rfl
  go_enter Try.func24, Try.ntmps24
  go_wp2_with fail
  go_loopw [13] (fun i wr => ∃ k : Nat, k ≤ xs.length ∧ i = .int .i64 k ∧ Below w.heap.size w wr ∧ ∃ q, wr = w.drewN q) (fun i _ => xs.length - (intOf i).toNat)
  case atStart => exact ⟨0, Nat.zero_le _, rfl, Below.refl _ _, 0, rfl⟩
  case round =>
    obtain ⟨k, hk, rfl, hb, q, rfl⟩ := hrel
    by_cases hlt : k < xs.length
    · obtain ⟨t, ht⟩ : ∃ t, xs[k]? = some t := ⟨_, List.getElem?_eq_getElem hlt⟩
      obtain ⟨b1, o1, rfl, hb1, hc1⟩ := h1 (by intro h; simp [h] at hlt)
      obtain ⟨b2, o2, rfl, hb2, hc2⟩ := h2 (by intro h; simp [h] at hlt)
      have d1 : (w.drewN q).cell? ⟨b1, o1 + k, none⟩ = some (.string t) := hc1 k t ht
      have d2 : (w.drewN q).cell? ⟨b2, o2 + k, none⟩ = some (.string t) := hc2 k t ht
      go_wp2_with fail
      go_quiet (fail)
      go_wp2_with fail
      exact ⟨⟨k + 1, by omega, by simp, below_drewN (Below.refl _ w) _, _, rfl⟩, by simp [intOf]; omega⟩
    · go_wp2_with fail
      go_ret
      exact ⟨rfl, hb⟩

theorem below_appended {W w1 : World} {n₀ : Nat} {e : TypeId} {size k : Nat} {v : Value} {xs : List Value} {tmp : Obj} (hrow : W.ownsRow n₀ e size v k xs) (hn₀ : n₀ ≤ W.heap.size) (hgrow : (W.alloc tmp).grownBy w1 v.ownBlock) : Below n₀ W w1 := by
  refine ((Below.refl n₀ W).alloc hn₀ tmp).grown hgrow (by simp; omega) fun j ej => ?_
  rcases hrow.2 with ⟨rfl, _⟩ | ⟨g, cap, cur, rfl, hb, _, _⟩
  · simp [Value.ownBlock] at ej
  · obtain rfl : g = j := by simpa [Value.ownBlock] using ej
    exact hb

theorem syF_take (ts : List Term) {k : Nat} {t : Term} (h : ts[k]? = some t) : syF (ts.take (k + 1)) = syF (ts.take k ++ [t]) := by rw [List.take_add_one, h]; rfl

set_option maxRecDepth 100000 in
set_option maxHeartbeats 4000000 in
theorem rsyms_in (A : Option Addr) (cap : Nat) (ts : List Term) (w : World) (hT : Terms w w.heap.size A ts) (hl : ts.length ≤ 1000000) (hsz : ∀ t ∈ ts, t.sym.size ≤ maxLen) :
    CallsIn Fence.wide 9 Try.prog 26 #[.slice A ts.length cap] w fun e W' => ∃ v, e = .returned v ∧ W'.ownsRow w.heap.size 9 1 v (symsF ts).length ((symsF ts).map Value.string) ∧ Below w.heap.size w W' := by
  obtain ⟨i0, hi, hz0, hz1, hz2⟩ := info_parts infoS'
  have mx : (1000000 : Nat) ≤ maxLen := by unfold maxLen; omega
  have HC := rcheck_any A cap ts w hT (by omega) hsz
  refine callsIn_of_wp Try.func26 rfl trivial ?_ rfl
  simp only [Try.ntmps26, List.size_toArray, List.length_cons, List.length_nil, Nat.reduceAdd, Nat.reduceSub, Array.replicate_succ, Array.replicate_zero, List.push_toArray, List.append_toArray, List.nil_append, List.cons_append]
  by_cases hc : checkF ts = 0
  · rw [hc] at HC
    gi_wp2_with (refine ⟨trivial, ?_⟩; gi_at_call 23; refine (callsIn_wide.2 HC).mono ?_; clear HC; rintro e w1 ⟨rfl, rfl⟩)
    gi_loopw [3, 4] (fun v i wr => ∃ k : Nat, k ≤ ts.length ∧ i = .int .i64 k ∧ wr.ownsRow w.heap.size 9 1 v (syF (ts.take k)).length ((syF (ts.take k)).map Value.string) ∧ Below w.heap.size w wr) (fun _ i _ => ts.length - (intOf i).toNat)
    case atStart => exact ⟨0, Nat.zero_le _, rfl, World.ownsRow_nil _ _ _ _, Below.refl _ _⟩
    case round =>
      obtain ⟨k, hk, rfl, hrow, hB⟩ := hrel
      by_cases hlt : k < ts.length
      · obtain ⟨t, ht⟩ : ∃ t, ts[k]? = some t := ⟨_, List.getElem?_eq_getElem hlt⟩
        obtain ⟨b, off, rfl, -, -⟩ := hT.2 (by omega)
        obtain ⟨hbb, c0, c1, c2⟩ := Terms.cells_at (SL.below hT hB) ht
        have hpl := syF_len (ts.take k)
        have hpl2 : (syF (ts.take k)).length ≤ k := by simp at hpl; omega
        by_cases hkd : t.kind = 2
        · rw [hkd] at c0
          gi_wp2_with (gi_at_builtin; refine wpListIn_append_own _ rfl _ _ 46 rfl w.heap.size 9 i0 (.string ⟨#[]⟩) 1 16 Try.underlying46 hi hz0 hz1 hz2 rfl (by decide) _ _ _ rfl (hrow.alloc _) ⟨wr.heap.size, 0, none⟩ 1 1 [.string t.sym] rfl rfl (cell_one_new _ _ _) (by simp [Value.oneCell']) (by omega) (by omega) (by have := hB.size; simp; omega) ?_; intro v' w3 hown' hgrow _; have hB3 := hB.trans (below_appended hrow hB.size hgrow))
          refine ⟨⟨k + 1, by omega, by simp, ?_, hB3⟩, by simp [intOf]; omega⟩
          rw [syF_take ts ht, syF_hit _ hkd]; simpa using hown'
        · have hkd' : (t.kind == 2) = false := by simpa using hkd
          gi_wp2
          refine ⟨⟨k + 1, by omega, by simp, ?_, hB⟩, by simp [intOf]; omega⟩
          rw [syF_take ts ht, syF_miss _ hkd]; exact hrow
      · obtain rfl : k = ts.length := by omega
        gi_wp2
        go_ret
        refine ⟨_, rfl, ?_, hB⟩
        rw [symsF, if_pos hc]; simpa using hrow
  · have hne : (checkF ts != 0) = true := by simpa using hc
    gi_wp2_with (refine ⟨trivial, ?_⟩; gi_at_call 23; refine (callsIn_wide.2 HC).mono ?_; clear HC; rintro e w1 ⟨rfl, rfl⟩)
    go_ret
    refine ⟨_, rfl, ?_, Below.refl _ _⟩
    rw [symsF, if_neg hc]; exact World.ownsRow_nil _ _ _ _

end Go.Proofs.Ythhlghoeapjagaa
