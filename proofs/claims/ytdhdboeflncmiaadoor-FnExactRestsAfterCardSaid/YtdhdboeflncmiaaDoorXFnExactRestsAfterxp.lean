-- Written by a program of this session (wip/xprint.py).
import Derived.Test.YtdhdboeflncmiaaDoorXFnExactRestsAfterx7
namespace Go.Proofs.YtdhdboeflncmiaaDoor.XFnExactRestsAfter
open Go.RowKit Go.Proofs.YtdhdboeflncmiaaDoorW.PrintWords Go.Proofs.YtdhdboeflncmiaaDoorW.PrintLast
/-- THE ONE PURE STATEMENT of laws_FnExactRestsAfter -/
def laws_FnExactRestsAfter.Pure : Prop := ∀ (l0 : List ByteArray) (a1 : Int), l0.length ≤ maxLen → (∀ s ∈ l0, s.size ≤ maxLen) → (Lit.int .i64 a1).wf = true → ∃ k, laws_FnExactRestsAfter.f k l0 a1 = some true
end Go.Proofs.YtdhdboeflncmiaaDoor.XFnExactRestsAfter
