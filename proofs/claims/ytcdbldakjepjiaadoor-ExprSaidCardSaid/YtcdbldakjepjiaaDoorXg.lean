/- The statement of ExprSaid: called with any arguments the law returns true, and the arguments read as before. No condition; its card is tied to the program's text. -/
import Derived.Test.YtcdbldakjepjiaaDoorXf
import Derived.Test.YtcdbldakjepjiaaDoorO2
import Derived.Test.YtcdbldakjepjiaaDoorLK
import Derived.Test.YtcdbldakjepjiaaDoorRows
import Derived.Test.YtcdbldakjepjiaaDoorCards
import Derived.Test.YtcdbldakjepjiaaDoorTie
import Derived.ProofKit
import Derived.OpenShut
import Derived.ShutString
import Derived.ChangeOld
import Derived.SizedLaws
import Derived.Lib.SmallJoins
import Derived.LaidMore
import Derived.Lay
import Derived.LaidOnce
import Derived.SevenTiedAt
set_option linter.unusedVariables false
set_option linter.unusedSimpArgs false
namespace Go.Proofs.YtcdbldakjepjiaaDoor
open Go.ChangeShapes Go.WideShapes Go.ChangeAt Go.RowKit Go.Joins

set_option maxRecDepth 100000 in
theorem lawExprSaid.lifted (os : Os) (started : os.Started) (H : Type) (enc : TypeId × Value → H) :
    ReturnsInHanded {} Tryd.checked os 9 .any (fun w args => (Rows.exprSaidSpec.pre enc Tryd.prog Tryd.f9 [] false w args ∧ laidMetH Tryd.prog lawVars w) ∧ sizedMet enc Tryd.prog Tryd.f9 (OpenSpec.ofChange Rows.exprSaidSpec) false w args)
      (Rows.exprSaidSpec.post enc Tryd.prog Tryd.f9 false true false false) := by
  refine returnsInHanded_of_change_and (C := Tryd.checked) (X := fun w _ => laidMetH Tryd.prog lawVars w) (fun _ _ _ hh h => h.of_heap hh) lawOwn started (by kernel_rfl) Tryd.func9
    (ChangeSpec.witness_shaped (enc := enc) (C := Tryd.checked) (os := os) (X := fun w _ => laidMetH Tryd.prog lawVars w) false (World.laidAll Tryd.prog os lawVars) #[.agg #[.int .i64 0, .string ⟨#[]⟩, .string ⟨#[]⟩]] 8 (World.laidAll_os _ _ _)
      (World.shaped_of_ZipB (by kernel_rfl) (by kernel_rfl)) (by kernel_rfl) (by kernel_rfl) (by kernel_rfl)
      (by rw [MakeChecks.laidMetH_plain _ _ _ (by kernel_rfl)]; exact laidMet_laidAll _ (by kernel_rfl) (by kernel_rfl))) ?_
  intro W base args ds gs before hval0 hW _ hsz0 hL _
  have hval : ∀ (j : Nat) t v, Tryd.f9.params[j]? = some t → args[j]? = some v → Value.okWide Tryd.prog W .any base t v := hval0
  have hW' := hW
  obtain ⟨p, q, hA0, hV, rfl, hfz, hnd⟩ := hW
  have hA : DataW.TrodAll enc Tryd.prog W 0 (fun _ => true) true Tryd.f9.params.toList args.toList ds p := hA0
  have hsz : (DataW.weightsEach Tryd.prog (Tryd.f9.params.toList ++ Rows.exprSaidSpec.plain.varTypes Tryd.prog) (ds ++ gs)).all (· ≤ reachBytes) = true := hsz0
  rw [Tryd.params9] at hA hval hsz
  obtain ⟨v0, vs0, d0, ds0, p0, q0, hargs, rfl, rfl, h0, r0⟩ := trodAll_cons hA
  obtain ⟨rfl, rfl, rfl⟩ := trodAll_nil r0
  obtain rfl : args = #[v0] := by cases args; simp_all
  obtain ⟨rfl, rfl⟩ := trodVars_none hV
  have k0 := h0
  have lt0 : ∀ x ∈ p0, x.block < W.heap.size := by obtain ⟨m, hm⟩ := k0; exact DataW.trod_lt m _ _ _ hm
  obtain ⟨va0, vp0, vm0, rfl, rfl, wa0, sp0, sm0⟩ := open_val (hval 0 51 v0 rfl rfl) h0
  clear hA0 hval0 hsz0
  have hG := gok_of_laid hL
  have hC : Calls Tryd.prog 9 #[.agg #[.int .i64 va0, .string vp0, .string vm0]] W fun e w' => e = .returned (.bool true) ∧ Below W.heap.size W w' :=
    law_calls (xs := [(tAgg Ex.valR).enc ⟨va0, vp0, vm0⟩]) (vals := [.agg #[.int .i64 va0, .string vp0, .string vm0]]) Tryd.func9 rfl hG ⟨⟨[.int .i64 va0, .string vp0, .string vm0], rfl, rfl, rfl, rfl, rfl, rfl, rfl, trivial⟩, trivial⟩ (by rw [Tryd.ntmps9]; show 1 ≤ _; decide) (Ex.said_sw ⟨va0, vp0, vm0⟩ sp0 sm0 (by have := in64_of_wf wa0; unfold In64 at this; exact this.1) (by have := in64_of_wf wa0; unfold In64 at this; simp only; omega))
  refine hC.mono fun e W' ⟨he, bel⟩ => ?_
  subst he
  exact ⟨_, rfl, _, _, _, [], _, [], hW', trodAll_mk1 (shut_bool Tryd.underlying4 _), (trodAll_cons_mk (Below.trod lawLaid (by kernel_rfl) (of_decide_eq_true (by kernel_rfl)) k0 bel lt0) trodAll_mk0), rfl, bel.frame _, fun h => by cases h⟩

theorem said_row : Rows.ExprSaidSaid :=
  OpenClaim.holds_of_wide 9 Tryd.f9 rfl rfl rfl rfl rfl rfl rfl ⟨rfl, rfl, rfl, rfl, rfl⟩ rfl rfl rfl rfl rfl (by kernel_rfl) Tryd.func9 (by kernel_rfl)
    (of_decide_eq_true (by kernel_rfl)) (by unfold Func.isWrapper; first | (rw [if_pos (by decide +kernel)]; kernel_rfl) | (rw [if_neg (by decide +kernel)]; exact ⟨rfl, rfl⟩))
    (fun os started H enc _ => lawExprSaid.lifted os started H enc)

theorem said_holds : Rows.ExprSaidCardSaid :=
  Claim7.holds_tied_plain_at .later [] _ _ _ _
    said_row (fun _ h => by cases h) (by kernel_rfl) (fun _ h => by cases h) exprSaid_row_tie rfl ⟨rfl, rfl⟩ (by kernel_rfl) rfl
    (fun f fn hf hfn => by
      obtain rfl : f = 9 := Option.some.inj ((show Tryd.prog.funcNamed "cooper/cooperlaw09.ExprSaid" = some 9 by kernel_rfl).symm.trans hf) |>.symm
      obtain rfl : fn = Tryd.f9 := (Option.some.inj (Tryd.func9.symm.trans hfn)).symm
      exact ⟨by kernel_rfl, fun j t ht => by
        rw [Tryd.params9] at ht
        have hm : t ∈ [51] := by simpa using Array.mem_of_getElem? ht
        have hall : ([51].all fun u => !Tryd.prog.wantsStandIn u) = true := by kernel_rfl
        exact (show Tryd.prog.wantsStandIn t = false by simpa using List.all_eq_true.1 hall t hm)⟩)
    (by kernel_rfl)
#print axioms said_holds
end Go.Proofs.YtcdbldakjepjiaaDoor
