import Derived.Test.YtnhbidpdadkcjaaGreatDoorR59
set_option linter.unusedVariables false
set_option linter.unusedSimpArgs false
set_option maxRecDepth 100000
set_option maxHeartbeats 8000000
namespace Go.Proofs.YtnhbidpdadkcjaaGreatDoor
open Go.Proofs.Tryz
section
open Go.ChangeShapes Go.WideShapes Go.ChangeAt Go.RowKit Go.Joins
theorem AT:joinedFacts Tryz.pinned.checked.prog 4 f4 (Rows.OpenSpec.upto Rows.stmtBackSpec).bare Rows.stmtBackUptoRow=true:=by kernel_rfl
theorem Ga:f4.isInstance Tryz.pinned.checked.prog Rows.stmtBackUptoRow.origin Rows.stmtBackUptoRow.targs:=of_decide_eq_true (by kernel_rfl)
theorem DE:Tryz.pinned.checked.prog.funcNamed Rows.stmtBackUptoRow.func=some 4:=by kernel_rfl
theorem Gb:f4.isWrapper Tryz.pinned.checked.prog Rows.stmtBackUptoRow.wrapper Rows.stmtBackUptoRow.mainSum:=by unfold Func.isWrapper;first | (rw[if_pos (by decide +kernel)];kernel_rfl) | (rw[if_neg (by decide +kernel)];exact⟨rfl,rfl⟩)
theorem I3:Rows.StmtBackUptoSaid :=
 OpenClaim.holds_of_cond 4 f4 rfl rfl rfl rfl rfl rfl rfl ⟨rfl,rfl,rfl,rfl,rfl⟩ rfl rfl rfl rfl rfl DE func4 AT Ga Gb
  (fun os started H enc _ F=>by rw[OpenClaim.pre_eq_preRow];exact DD os started H enc F)
theorem stback_holds:Rows.StmtBackUptoCardSaid :=
 Claim7.holds_tied_plain_at .later [] _ _ _ _
  I3 (fun _ h=>by cases h) (by kernel_rfl) (fun _ h=>by cases h) stmtBackUpto_row_tie rfl ⟨rfl,rfl⟩ (by kernel_rfl) rfl
  (fun f fn hf hfn=>by
   obtain rfl:f=4:=Option.some.inj ((show Tryz.prog.funcNamed "cooper/cooperlaw11.StmtBack" = some 4 by kernel_rfl).symm.trans hf) |>.symm
   obtain rfl:fn=f4:=(Option.some.inj (func4.symm.trans hfn)).symm
   exact⟨by kernel_rfl,fun j t ht=>by
    rw[params4]at ht;have hm:t∈[41]:=by simpa using Array.mem_of_getElem? ht
    have hall:([41].all fun u=>!Tryz.prog.wantsStandIn u)=true:=by kernel_rfl
    exact(show Tryz.prog.wantsStandIn t=false by simpa using List.all_eq_true.1 hall t hm)⟩)
  (by kernel_rfl)
#print axioms stback_holds
end
end Go.Proofs.YtnhbidpdadkcjaaGreatDoor
