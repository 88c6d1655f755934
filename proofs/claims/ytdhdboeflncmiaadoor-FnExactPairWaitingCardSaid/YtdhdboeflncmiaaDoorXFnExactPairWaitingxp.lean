-- Written by a program of this session (wip/xprint.py).
import Derived.Test.YtdhdboeflncmiaaDoorXFnExactPairWaitingx7
namespace Go.Proofs.YtdhdboeflncmiaaDoor.XFnExactPairWaiting
open Go.RowKit Go.Proofs.YtdhdboeflncmiaaDoorW.PrintWords Go.Proofs.YtdhdboeflncmiaaDoorW.PrintLast
/-- THE ONE PURE STATEMENT of laws_FnExactPairWaiting -/
def laws_FnExactPairWaiting.Pure : Prop := ∀ (l0 : List ByteArray) (a1 : Int), l0.length ≤ maxLen → (∀ s ∈ l0, s.size ≤ maxLen) → (Lit.int .i64 a1).wf = true → ∃ k, laws_FnExactPairWaiting.f k l0 a1 = some true
end Go.Proofs.YtdhdboeflncmiaaDoor.XFnExactPairWaiting
