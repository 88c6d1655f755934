-- Written by a program of this session (wip/xprint.py).
import Derived.Test.YtoemhhfkbclbiaaDoorXFnExactFirstWordsx5
namespace Go.Proofs.YtoemhhfkbclbiaaDoor.XFnExactFirstWords
open Go.RowKit Go.Proofs.YtoemhhfkbclbiaaDoorW.PrintWords Go.Proofs.YtoemhhfkbclbiaaDoorW.PrintLast
/-- THE ONE PURE STATEMENT of laws_FnExactFirstWords -/
def laws_FnExactFirstWords.Pure : Prop := ∀ (l0 : List ByteArray) (a1 : ByteArray), l0.length ≤ maxLen → (∀ s ∈ l0, s.size ≤ maxLen) → a1.size ≤ 140737488351232 → ∃ k, laws_FnExactFirstWords.f k l0 a1 = some true
end Go.Proofs.YtoemhhfkbclbiaaDoor.XFnExactFirstWords
