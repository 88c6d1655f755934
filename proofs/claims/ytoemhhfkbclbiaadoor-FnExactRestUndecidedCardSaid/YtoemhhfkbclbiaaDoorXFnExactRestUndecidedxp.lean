-- Written by a program of this session (wip/xprint.py).
import Derived.Test.YtoemhhfkbclbiaaDoorXFnExactRestUndecidedx5
namespace Go.Proofs.YtoemhhfkbclbiaaDoor.XFnExactRestUndecided
open Go.RowKit Go.Proofs.YtoemhhfkbclbiaaDoorW.PrintWords Go.Proofs.YtoemhhfkbclbiaaDoorW.PrintLast
/-- THE ONE PURE STATEMENT of laws_FnExactRestUndecided -/
def laws_FnExactRestUndecided.Pure : Prop := ∀ (l0 : List ByteArray) (a1 : ByteArray), l0.length ≤ maxLen → (∀ s ∈ l0, s.size ≤ maxLen) → a1.size ≤ 140737488351232 → ∃ k, laws_FnExactRestUndecided.f k l0 a1 = some true
end Go.Proofs.YtoemhhfkbclbiaaDoor.XFnExactRestUndecided
