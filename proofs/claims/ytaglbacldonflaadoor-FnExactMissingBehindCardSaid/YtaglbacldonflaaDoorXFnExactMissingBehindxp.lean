-- Written by a program of this session (wip/xprint.py).
import Derived.Test.YtaglbacldonflaaDoorXFnExactMissingBehindx7
namespace Go.Proofs.YtaglbacldonflaaDoor.XFnExactMissingBehind
open Go.RowKit Go.Proofs.YtaglbacldonflaaDoorW.PrintWords Go.Proofs.YtaglbacldonflaaDoorW.PrintLast
/-- THE ONE PURE STATEMENT of laws_FnExactMissingBehind -/
def laws_FnExactMissingBehind.Pure : Prop := ∀ (l0 : List ByteArray) (a1 : ByteArray), l0.length ≤ maxLen → (∀ s ∈ l0, s.size ≤ maxLen) → a1.size ≤ 140737488351232 → ∃ k, laws_FnExactMissingBehind.f k l0 a1 = some true
end Go.Proofs.YtaglbacldonflaaDoor.XFnExactMissingBehind
