-- Written by a program of this session (wip/xprint.py).
import Derived.Test.YtdhdboeflncmiaaDoorXFnExactWrittenUpTox5
namespace Go.Proofs.YtdhdboeflncmiaaDoor.XFnExactWrittenUpTo
open Go.RowKit Go.Proofs.YtdhdboeflncmiaaDoorW.PrintWords Go.Proofs.YtdhdboeflncmiaaDoorW.PrintLast
/-- THE ONE PURE STATEMENT of laws_FnExactWrittenUpTo -/
def laws_FnExactWrittenUpTo.Pure : Prop := ∀ (l0 : List ByteArray) (a1 : Int), l0.length ≤ maxLen → (∀ s ∈ l0, s.size ≤ maxLen) → (Lit.int .i64 a1).wf = true → ∃ k, laws_FnExactWrittenUpTo.f k l0 a1 = some true
end Go.Proofs.YtdhdboeflncmiaaDoor.XFnExactWrittenUpTo
