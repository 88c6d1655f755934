-- Written by a program of this session (wip/xprint.py).
import Derived.Test.YtkefjfpjnghkdaaDoorXFnExactFirstTooHeavyx6
namespace Go.Proofs.YtkefjfpjnghkdaaDoor.XFnExactFirstTooHeavy
open Go.RowKit Go.Proofs.YtkefjfpjnghkdaaDoorW.PrintWords Go.Proofs.YtkefjfpjnghkdaaDoorW.PrintLast
/-- THE ONE PURE STATEMENT of laws_FnExactFirstTooHeavy -/
def laws_FnExactFirstTooHeavy.Pure : Prop := ∀ (l0 : List ByteArray) (a1 : Int), l0.length ≤ maxLen → (∀ s ∈ l0, s.size ≤ maxLen) → (Lit.int .i64 a1).wf = true → ∃ k, laws_FnExactFirstTooHeavy.f k l0 a1 = some true
end Go.Proofs.YtkefjfpjnghkdaaDoor.XFnExactFirstTooHeavy
