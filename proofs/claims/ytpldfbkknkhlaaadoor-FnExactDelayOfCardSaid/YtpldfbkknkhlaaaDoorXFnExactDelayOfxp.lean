-- Written by a program of this session (wip/xprint.py).
import Derived.Test.YtpldfbkknkhlaaaDoorXFnExactDelayOfx6
namespace Go.Proofs.YtpldfbkknkhlaaaDoor.XFnExactDelayOf
open Go.RowKit Go.Proofs.YtpldfbkknkhlaaaDoorW.PrintWords Go.Proofs.YtpldfbkknkhlaaaDoorW.PrintLast
/-- THE ONE PURE STATEMENT of laws_FnExactDelayOf -/
def laws_FnExactDelayOf.Pure : Prop := ∀ (l0 : List ByteArray), l0.length ≤ maxLen → (∀ s ∈ l0, s.size ≤ maxLen) → ∃ k, laws_FnExactDelayOf.f k l0 = some true
end Go.Proofs.YtpldfbkknkhlaaaDoor.XFnExactDelayOf
