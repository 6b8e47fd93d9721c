/- What lasting memory holds of the package-level variables. -/
import Derived.WalkKit
set_option linter.unusedVariables false
set_option linter.unusedSimpArgs false
namespace Go.Proofs.YtcdbldakjepjiaaDoor

def Gok (M : Nat → Nat → Option Value) : Prop :=
  (∃ ev, M 5 0 = some ev ∧ (ev = .nilIface ∨ ∃ te pe, ev = .iface te pe)) ∧ ∀ i : Nat, i < 20 → M 0 i = some (.int .u64 (10 ^ i))
theorem Gok.mono {M M' : Nat → Nat → Option Value} (h : Gok M) (hle : ∀ b o y, M b o = some y → M' b o = some y) : Gok M' :=
  ⟨h.1.elim fun ev h1 => ⟨ev, hle _ _ _ h1.1, h1.2⟩, fun i hi => hle _ _ _ (h.2 i hi)⟩

end Go.Proofs.YtcdbldakjepjiaaDoor
