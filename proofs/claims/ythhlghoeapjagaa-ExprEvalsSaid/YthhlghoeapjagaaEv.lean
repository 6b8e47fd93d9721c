/- The statement of ExprEvals: called with any slice of terms the law returns true, and the arguments read as before. No condition. -/
import Derived.Test.YthhlghoeapjagaaRows
import Derived.Test.YthhlghoeapjagaaEvW
import Derived.Test.YthhlghoeapjagaaOpen
import Derived.Deep.Slices
import Derived.SizedLaws
import Derived.Deep.Fields
import Derived.ChangeSame
set_option linter.unusedVariables false
set_option linter.unusedSimpArgs false
namespace Go.Proofs.Ythhlghoeapjagaa
open Go.ChangeShapes Go.WideShapes Go.ChangeAt Go.RowKit

theorem cellsTerm : Try.prog.cellsOf 57 = 3 := by kernel_rfl

theorem list3 {α : Type} {l : List α} (h : l.length = 3) : ∃ a b c, l = [a, b, c] := by
  match l, h with
  | [a, b, c], _ => exact ⟨a, b, c, rfl⟩

section
variable {H : Type} {enc : TypeId × Value → H} {w : World} {base : Nat} {spare : Nat → Bool} {held : Bool}

/-- one term, read off its three cells -/
theorem open_term {n : Nat} {cs : List Value} {x : DataW H × List MemPlace} (h : DataW.trod enc Try.prog w base spare held n 57 cs = some x) :
    ∃ t : Term, cs = t.cells ∧ x.1 = .agg [.lit (.int .i64 t.kind), .lit (.int .i64 t.n), .lit (.string t.sym.data.toList)] ∧ (Lit.int .i64 t.n).wf = true ∧ t.sym.size ≤ maxLen := by
  obtain ⟨xs, m, rfl, rfl, hl, hx, hf⟩ := DataW.trod_struct Try.underlying57 h
  rw [cellsTerm] at hl
  obtain ⟨c0, c1, c2, rfl⟩ := list3 hl
  obtain ⟨y0, y1, y2, rfl⟩ := list3 (l := xs) hx
  have f0 : DataW.trod enc Try.prog w base spare held m 3 (([c0, c1, c2].drop 0).take (Try.prog.cellsOf 3)) = some y0 := hf 0 _ rfl
  have f1 : DataW.trod enc Try.prog w base spare held m 2 (([c0, c1, c2].drop 1).take (Try.prog.cellsOf 2)) = some y1 := hf 1 _ rfl
  have f2 : DataW.trod enc Try.prog w base spare held m 9 (([c0, c1, c2].drop 2).take (Try.prog.cellsOf 9)) = some y2 := hf 2 _ rfl
  clear hf
  rw [show Try.prog.cellsOf 3 = 1 by kernel_rfl] at f0
  rw [show Try.prog.cellsOf 2 = 1 by kernel_rfl] at f1
  rw [show Try.prog.cellsOf 9 = 1 by kernel_rfl] at f2
  obtain ⟨k, e0, rfl, -⟩ := DataW.trod_int Try.underlying3 (show DataW.trod enc Try.prog w base spare held m 3 [c0] = some y0 from f0)
  obtain ⟨q, e1, rfl, w1⟩ := DataW.trod_int Try.underlying2 (show DataW.trod enc Try.prog w base spare held m 2 [c1] = some y1 from f1)
  obtain ⟨s, e2, rfl, z⟩ := DataW.trod_string Try.underlying9 (show DataW.trod enc Try.prog w base spare held m 9 [c2] = some y2 from f2)
  injection e0 with e0
  injection e1 with e1
  injection e2 with e2
  subst e0 e1 e2
  exact ⟨⟨k, q, s⟩, rfl, rfl, w1, z⟩

theorem spot_none {w : World} {a : Addr} {v : Value} (h : w.cell? a = some v) : a = ⟨a.block, a.off, none⟩ ∧ a.block < w.heap.size := by
  unfold World.cell? at h
  split at h
  · rename_i c t fr hb
    refine ⟨?_, (Array.getElem?_eq_some_iff.1 hb).1⟩
    split at h
    · cases h
    · rename_i hs
      obtain ⟨b, o, s⟩ := a
      cases s with
      | none => rfl
      | some s => exact absurd rfl hs
  · cases h

theorem flat_length (ts : List Term) : (ts.flatMap Term.cells).length = ts.length * 3 := by
  induction ts with
  | nil => rfl
  | cons t r ih => rw [List.flatMap_cons, List.length_append, ih, List.length_cons]; show 3 + _ = _; omega

theorem datum_inj {k k' n n' : Int} {s s' : List UInt8} (h : (DataW.agg [.lit (.int .i64 k), .lit (.int .i64 n), .lit (.string s)] : DataW H) = .agg [.lit (.int .i64 k'), .lit (.int .i64 n'), .lit (.string s')]) : s = s' := by
  injection h with h
  simp at h
  exact h.2.2

theorem open_terms {v : Value} {d : DataW H} {p : List MemPlace} {r : Reach} {b0 : Nat} (hv : Value.okWide Try.prog w r b0 34 v) (h : DataW.Trod enc Try.prog w 0 (fun _ => true) held 34 v d p) :
    ∃ (A : Option Addr) (cap : Nat) (ts : List Term), v = .slice A ts.length cap ∧ TermsC w A ts cap ∧ ts.length ≤ maxLen ∧ (∀ t ∈ ts, (Lit.int .i64 t.n).wf = true) ∧
      (d = .nil ∧ ts = [] ∨ ∃ sp, d = .slice (ts.map fun t => .agg [.lit (.int .i64 t.kind), .lit (.int .i64 t.n), .lit (.string t.sym.data.toList)]) sp) := by
  obtain ⟨a0, l0, c0, rfl⟩ := okWide_slice Try.underlying34 hv
  obtain ⟨m, hm⟩ := h
  rcases Go.Deep.open_slice Try.underlying34 hm with ⟨e, hd⟩ | ⟨a, len, cap, mm, n, D, Pl, e, -, hl, hcm, hmm, hx, hi⟩
  · injection e with e
    injection e with e1 e2 e3
    injection hd with hd1 hd2
    subst e1 e2 e3
    exact ⟨none, 0, [], rfl, ⟨⟨rfl, fun h => absurd h (by simp)⟩, Nat.le_refl _, .inl rfl⟩, Nat.zero_le _, by simp, .inl ⟨hd1, rfl⟩⟩
  · injection e with e
    injection e with e1 e2 e3
    subst e1 e2 e3
    rw [if_pos rfl] at hmm
    subst hmm
    rw [cellsTerm] at hi
    have key : ∀ i, ∃ t : Term, i < mm → (∀ j, j < 3 → w.cell? (a.add (i * 3 + j)) = t.cells[j]?) ∧ D i = .agg [.lit (.int .i64 t.kind), .lit (.int .i64 t.n), .lit (.string t.sym.data.toList)] ∧ (Lit.int .i64 t.n).wf = true := by
      intro i
      by_cases him : i < mm
      · obtain ⟨cs, hc, ht⟩ := hi i him
        obtain ⟨t, rfl, hd, hw, -⟩ := open_term ht
        obtain ⟨-, -, hcs⟩ := World.cells?_some hc
        exact ⟨t, fun _ => ⟨fun j hj => by rw [← hcs j hj, Go.Deep.add_add], hd, hw⟩⟩
      · exact ⟨⟨0, 0, ⟨#[]⟩⟩, fun h => absurd h him⟩
    obtain ⟨T, hT⟩ := Classical.axiomOfChoice key
    injection hx with hx _
    have hlen : ((List.range l0).map T).length = l0 := by simp
    have hmem : ∀ t ∈ (List.range l0).map T, ∃ i, i < l0 ∧ T i = t := fun t ht => by simpa using ht
    refine ⟨some a, mm, (List.range l0).map T, by rw [hlen], ⟨⟨?_, fun hl0 => ?_⟩, by rw [hlen]; exact hl, ?_⟩, by rw [hlen]; omega, fun t ht => ?_, .inr ⟨(List.range (mm - l0)).map fun j => D (l0 + j), hx.trans ?_⟩⟩
    · rw [flat_length]
    · rw [hlen] at hl0
      have h0 := (hT 0 (by omega)).1 0 (by omega)
      obtain ⟨ha, hb⟩ := spot_none (h0.trans (show (T 0).cells[0]? = some _ from rfl))
      rw [show a.add (0 * 3 + 0) = a from rfl] at ha hb
      refine ⟨a.block, a.off, by rw [← ha], hb, fun j u hj => ?_⟩
      have hjl : j < l0 * 3 := by
        have := (List.getElem?_eq_some_iff.1 hj).1
        rw [flat_length, hlen] at this; exact this
      have hi3 : j / 3 < l0 := by omega
      have hk : ((List.range l0).map T)[j / 3]? = some (T (j / 3)) := by simp [hi3]
      have g := flat_get Term.cells 3 (fun _ => rfl) _ (j / 3) _ (j % 3) hk (by omega)
      rw [show j / 3 * 3 + j % 3 = j by omega] at g
      have c := (hT (j / 3) (by omega)).1 (j % 3) (by omega)
      rw [show j / 3 * 3 + j % 3 = j by omega] at c
      rw [← g, hj] at c
      rw [← c]
      congr 1
      rw [ha]
      unfold Addr.add
      split
      · rename_i h; subst h; rfl
      · rfl
    · rcases Nat.eq_zero_or_pos mm with h | h
      · exact .inl h
      · have h0 := (hT 0 h).1 0 (by omega)
        obtain ⟨ha, hb⟩ := spot_none (h0.trans (show (T 0).cells[0]? = some _ from rfl))
        rw [show a.add (0 * 3 + 0) = a from rfl] at ha hb
        exact .inr ⟨a.block, a.off, by rw [← ha], hb⟩
    · obtain ⟨i, hi', rfl⟩ := hmem t ht
      exact (hT i (by omega)).2.2
    · congr 1
      rw [List.map_map]
      apply List.map_congr_left
      intro i hi'
      rw [(hT i (by have := List.mem_range.1 hi'; omega)).2.1]
      rfl

theorem weightsAll_mem {e : TypeId} {x : Nat} {d : DataW H} : ∀ {l : List (DataW H)}, d ∈ l → x ∈ DataW.weights Try.prog e d → x ∈ DataW.weightsAll Try.prog e l
  | [], h, _ => by simp at h
  | y :: r, h, hx => by
    rw [DataW.weightsAll]
    rcases List.mem_cons.1 h with rfl | h
    · exact List.mem_append_left _ hx
    · exact List.mem_append_right _ (weightsAll_mem h hx)

theorem terms_sized {tys : List TypeId} {ds : List (DataW H)} (h : ∀ x ∈ DataW.weightsEach Try.prog tys ds, decide (x ≤ reachBytes) = true) {j : Nat} {ts : List Term} {sp : List (DataW H)}
    (ht : tys[j]? = some 34) (hd : ds[j]? = some (.slice (ts.map fun t => .agg [.lit (.int .i64 t.kind), .lit (.int .i64 t.n), .lit (.string t.sym.data.toList)]) sp)) : ∀ t ∈ ts, t.sym.size ≤ 140737488355328 := by
  intro t htm
  have m := of_decide_eq_true (h _ (DataW.weights_mem_each ht hd t.sym.data.toList.length (by
    simp only [DataW.weights, Try.underlying34]
    refine List.mem_cons_of_mem _ (List.mem_append_left _ (weightsAll_mem (List.mem_map.2 ⟨t, htm, rfl⟩) ?_))
    simp [DataW.weights, DataW.weightsEach, Try.underlying57])))
  rw [Array.length_toList] at m
  have := reachBytes_lt
  show t.sym.data.size ≤ _
  omega
end

set_option maxRecDepth 100000 in
theorem lawEvals.lifted (os : Os) (started : os.Started) (H : Type) (enc : TypeId × Value → H) :
    ReturnsInHanded {} Try.checked os 5 .any (Rows.exprEvalsSpec.pre6 enc Try.prog Try.f5 Rows.exprEvalsRow.domain false) (Rows.exprEvalsSpec.post enc Try.prog Try.f5 false true false false) := by
  refine returnsInHanded_of_change_sized (C := Try.checked) lawOwn started (by kernel_rfl) Try.func5
    (ChangeSpec.witness6 (enc := enc) (C := Try.checked) false ⟨#[], #[.slice none 0 0], []⟩ 8 (by kernel_rfl) (by kernel_rfl) (by kernel_rfl) (by kernel_rfl)) ?_
  intro W base args ds gs before hval0 hW hcnd hsz0 _
  have hval : ∀ (j : Nat) t v, Try.f5.params[j]? = some t → args[j]? = some v → Value.okWide Try.prog W .any base t v := hval0
  have hsz : (DataW.weightsEach Try.prog (Try.f5.params.toList ++ Rows.exprEvalsSpec.plain.varTypes Try.prog) (ds ++ gs)).all (· ≤ reachBytes) = true := hsz0
  have hW' := hW
  obtain ⟨p, q, hA0, hV, rfl, hfz, hnd⟩ := hW
  have hA : DataW.TrodAll enc Try.prog W 0 (fun _ => true) true Try.f5.params.toList args.toList ds p := hA0
  rw [Try.params5] at hA hval hsz
  obtain ⟨v0, vs0, d0, ds0, p0, q0, hargs, rfl, rfl, h0, r0⟩ := trodAll_cons hA
  obtain ⟨rfl, rfl, rfl⟩ := trodAll_nil r0
  obtain rfl : args = #[v0] := by cases args; simp_all
  obtain ⟨rfl, rfl⟩ := trodVars_none hV
  have k0 := h0
  have lt0 : ∀ x ∈ p0, x.block < W.heap.size := by obtain ⟨m, hm⟩ := k0; exact DataW.trod_lt m _ _ _ hm
  obtain ⟨A, cap, ts, rfl, hT, hl, hn, hd⟩ := open_terms (hval 0 34 v0 rfl rfl) h0
  have hz : ∀ t ∈ ts, t.sym.size ≤ 140737488355328 := by
    rcases hd with ⟨_, rfl⟩ | ⟨sp, rfl⟩
    · simp
    · exact terms_sized (List.all_eq_true.1 hsz) (j := 0) rfl rfl
  clear hA0 hval0 hsz0
  refine (evals_walk A cap ts W hT hl hz (fun t ht => by obtain ⟨h1, h2⟩ := bounds_i64 (hn t ht); omega)).mono fun e W' ⟨he, bel⟩ => ?_
  subst he
  exact ⟨_, rfl, _, _, _, [], _, [], hW', trodAll_mk1 (shut_bool Try.underlying4 _), (trodAll_cons_mk (Below.trod lawLaid (by kernel_rfl) (of_decide_eq_true (by kernel_rfl)) k0 bel lt0) trodAll_mk0), rfl, bel.frame _, fun h => by cases h⟩

theorem evals_holds : Rows.ExprEvalsSaid :=
  OpenClaim.holds_of_wide 5 Try.f5 rfl rfl rfl rfl rfl rfl rfl ⟨rfl, rfl, rfl, rfl, rfl⟩ rfl rfl rfl rfl rfl (by kernel_rfl) Try.func5 (by kernel_rfl)
    (of_decide_eq_true (by kernel_rfl)) (by unfold Func.isWrapper; first | (rw [if_pos (by decide +kernel)]; kernel_rfl) | (rw [if_neg (by decide +kernel)]; exact ⟨rfl, rfl⟩))
    (fun os started H enc _ => lawEvals.lifted os started H enc)

#print axioms evals_holds
end Go.Proofs.Ythhlghoeapjagaa
