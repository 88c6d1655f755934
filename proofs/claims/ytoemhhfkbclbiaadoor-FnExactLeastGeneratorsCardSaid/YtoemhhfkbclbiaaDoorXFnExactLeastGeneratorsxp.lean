-- Written by a program of this session (wip/xprint.py).
import Derived.Test.YtoemhhfkbclbiaaDoorXFnExactLeastGeneratorsx7
namespace Go.Proofs.YtoemhhfkbclbiaaDoor.XFnExactLeastGenerators
open Go.RowKit Go.Proofs.YtoemhhfkbclbiaaDoorW.PrintWords Go.Proofs.YtoemhhfkbclbiaaDoorW.PrintLast
/-- THE ONE PURE STATEMENT of laws_FnExactLeastGenerators -/
def laws_FnExactLeastGenerators.Pure : Prop := ∀ (l0 : List ByteArray), l0.length ≤ maxLen → (∀ s ∈ l0, s.size ≤ maxLen) → ∃ k, laws_FnExactLeastGenerators.f k l0 = some true
end Go.Proofs.YtoemhhfkbclbiaaDoor.XFnExactLeastGenerators
