-- Written by a program of this session (wip/xprint.py).
import Derived.Test.YtoemhhfkbclbiaaDoorXFnExactCanMeetx3
namespace Go.Proofs.YtoemhhfkbclbiaaDoor.XFnExactCanMeet
open Go.RowKit Go.Proofs.YtoemhhfkbclbiaaDoorW.PrintWords Go.Proofs.YtoemhhfkbclbiaaDoorW.PrintLast
/-- THE ONE PURE STATEMENT of laws_FnExactCanMeet -/
def laws_FnExactCanMeet.Pure : Prop := ∀ (l0 : List ByteArray) (a1 : ByteArray), l0.length ≤ maxLen → (∀ s ∈ l0, s.size ≤ maxLen) → a1.size ≤ 140737488351232 → ∃ k, laws_FnExactCanMeet.f k l0 a1 = some true
end Go.Proofs.YtoemhhfkbclbiaaDoor.XFnExactCanMeet
