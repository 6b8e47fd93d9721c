/- What lasting memory holds of the package-level variables: nothing is asked (for seats whose code reads none). -/
import Derived.WalkKit
set_option linter.unusedVariables false
set_option linter.unusedSimpArgs false
namespace Go.Proofs.YtpdjaabjfhjppaaGreatDoor

def Gok (M : Nat → Nat → Option Value) : Prop := True
theorem Gok.mono {M M' : Nat → Nat → Option Value} (h : Gok M) (hle : ∀ b o y, M b o = some y → M' b o = some y) : Gok M' := trivial

end Go.Proofs.YtpdjaabjfhjppaaGreatDoor
