-- Written by a program of this session (wip/xprint.py).
import Derived.Test.YtpldfbkknkhlaaaDoorXFnExactDelayBackx6
namespace Go.Proofs.YtpldfbkknkhlaaaDoor.XFnExactDelayBack
open Go.RowKit Go.Proofs.YtpldfbkknkhlaaaDoorW.PrintWords Go.Proofs.YtpldfbkknkhlaaaDoorW.PrintLast
/-- THE ONE PURE STATEMENT of laws_FnExactDelayBack -/
def laws_FnExactDelayBack.Pure : Prop := ∀ (l0 : List ByteArray), l0.length ≤ maxLen → (∀ s ∈ l0, s.size ≤ maxLen) → ∃ k, laws_FnExactDelayBack.f k l0 = some true
end Go.Proofs.YtpldfbkknkhlaaaDoor.XFnExactDelayBack
