-- Written by a program of this session (wip/xprint.py).
import Derived.Test.YtlapobfhpimleaaDoorXFnExactIsDeskx3
namespace Go.Proofs.YtlapobfhpimleaaDoor.XFnExactIsDesk
open Go.RowKit Go.Proofs.YtlapobfhpimleaaDoorW.PrintWords Go.Proofs.YtlapobfhpimleaaDoorW.PrintLast
/-- THE ONE PURE STATEMENT of laws_FnExactIsDesk -/
def laws_FnExactIsDesk.Pure : Prop := ∀ (l0_0 : List ByteArray) (a0_1 : ByteArray), l0_0.length ≤ maxLen → (∀ s ∈ l0_0, s.size ≤ maxLen) → a0_1.size ≤ maxLen → ∃ k, laws_FnExactIsDesk.f k l0_0 a0_1 = some true
end Go.Proofs.YtlapobfhpimleaaDoor.XFnExactIsDesk
