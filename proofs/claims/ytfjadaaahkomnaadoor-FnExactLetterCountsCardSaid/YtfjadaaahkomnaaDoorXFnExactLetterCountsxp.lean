-- Written by a program of this session (wip/xprint.py).
import Derived.Test.YtfjadaaahkomnaaDoorXFnExactLetterCountsx4
namespace Go.Proofs.YtfjadaaahkomnaaDoor.XFnExactLetterCounts
open Go.RowKit Go.Proofs.YtfjadaaahkomnaaDoorW.PrintWords Go.Proofs.YtfjadaaahkomnaaDoorW.PrintLast
/-- THE ONE PURE STATEMENT of laws_FnExactLetterCounts -/
def laws_FnExactLetterCounts.Pure : Prop := ∀ (l0 : List ByteArray), l0.length ≤ maxLen → (∀ s ∈ l0, s.size ≤ maxLen) → ∃ k, laws_FnExactLetterCounts.f k l0 = some true
end Go.Proofs.YtfjadaaahkomnaaDoor.XFnExactLetterCounts
