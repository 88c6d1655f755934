-- Written by a program of this session (wip/xprint.py).
import Derived.Test.YthlldokmjpfilaaGreatDoorXFnExactCanBeInStepx10
namespace Go.Proofs.YthlldokmjpfilaaGreatDoor.XFnExactCanBeInStep
open Go.RowKit Go.Proofs.YthlldokmjpfilaaGreatDoorW.PrintWords Go.Proofs.YthlldokmjpfilaaGreatDoorW.PrintLast
/-- THE ONE PURE STATEMENT of laws_FnExactCanBeInStep -/
def laws_FnExactCanBeInStep.Pure : Prop := ∀ (l0 : List ByteArray), l0.length ≤ maxLen → (∀ s ∈ l0, s.size ≤ maxLen) → ∃ k, laws_FnExactCanBeInStep.f k l0 = some true
end Go.Proofs.YthlldokmjpfilaaGreatDoor.XFnExactCanBeInStep
