/- Instructions as lines: the steps. -/
import Derived.Test.YtpjlafmhoifkmaaGreatJ5
set_option linter.unusedVariables false
set_option linter.unusedSimpArgs false
namespace Go.Proofs.YtpjlafmhoifkmaaGreat
open Go.RowKit

def stpD : Stp := ⟨49, fun x l => l ++ [dO x], fun _ l => l.length ≤ 1000 ∧ True, stDS, fun _ _ _ => rfl, fun _ _ _ => rfl⟩
def stpN : Stp := ⟨50, fun x l => l ++ [nO x], fun _ l => l.length ≤ 1000 ∧ True, stNS, fun _ _ _ => rfl, fun _ _ _ => rfl⟩
def stpM : Stp := ⟨56, fun x l => l ++ [mO x], fun _ l => l.length ≤ 1000 ∧ True, stMS, fun _ _ _ => rfl, fun _ _ _ => rfl⟩
def stpA : Stp := ⟨130, fun x l => l ++ [aO x], fun _ l => l.length ≤ 1000 ∧ True, stAS, fun _ _ _ => rfl, fun _ _ _ => rfl⟩
def stpDs : Stp := ⟨107, fun x l => l ++ [dsO x], fun _ l => l.length ≤ 1000 ∧ True, stDsS, fun _ _ _ => rfl, fun _ _ _ => rfl⟩
def stpNs : Stp := ⟨104, fun x l => l ++ [nsO x], fun _ l => l.length ≤ 1000 ∧ True, stNsS, fun _ _ _ => rfl, fun _ _ _ => rfl⟩
def stpXd : Stp := ⟨120, fun x l => l ++ [xdO x], fun _ l => l.length ≤ 1000 ∧ True, stXdS, fun _ _ _ => rfl, fun _ _ _ => rfl⟩
def stpNum : Stp := ⟨51, fun x l => l ++ [numO' x], fun _ l => l.length ≤ 1000 ∧ True, stNumS, fun _ _ _ => rfl, fun _ _ _ => rfl⟩
def stpCond : Stp := ⟨128, fun x l => l ++ [condO x], fun _ l => l.length ≤ 1000 ∧ True, stCondS, fun _ _ _ => rfl, fun _ _ _ => rfl⟩
def stpFar : Stp := ⟨123, fun x l => l ++ [farO x], fun x l => l.length ≤ 1000 ∧ (-1152921504606846976 ≤ x.a ∧ x.a ≤ 1152921504606846976), stFarS, fun _ _ _ => rfl, fun _ _ _ => rfl⟩
def stepsT : StTab where
  at_ := fun g => if g = 49 then some stpD else if g = 50 then some stpN else if g = 56 then some stpM else if g = 130 then some stpA else if g = 107 then some stpDs else if g = 104 then some stpNs else if g = 120 then some stpXd else if g = 51 then some stpNum else if g = 128 then some stpCond else if g = 123 then some stpFar else none
  ok := by
    intro g st h
    repeat' split at h
    all_goals first | (injection h with h; subst h; rename_i e; rw [e]; rfl) | (injection h with h; subst h; subst_vars; rfl) | cases h

end Go.Proofs.YtpjlafmhoifkmaaGreat
