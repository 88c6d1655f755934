-- Written by a program of this session (wip/xprint.py).
import Derived.Test.YtkefjfpjnghkdaaDoorXFnExactMeanLengthx5
namespace Go.Proofs.YtkefjfpjnghkdaaDoor.XFnExactMeanLength
open Go.RowKit Go.Proofs.YtkefjfpjnghkdaaDoorW.PrintWords Go.Proofs.YtkefjfpjnghkdaaDoorW.PrintLast
/-- THE ONE PURE STATEMENT of laws_FnExactMeanLength -/
def laws_FnExactMeanLength.Pure : Prop := ∀ (l0 : List ByteArray) (l1 : List Int), l0.length ≤ maxLen → (∀ s ∈ l0, s.size ≤ maxLen) → l1.length ≤ maxLen → l1.length * 8 ≤ 140737488351232 → (∀ x ∈ l1, (Lit.int .i64 x).wf = true) → ∃ k, laws_FnExactMeanLength.f k l0 l1 = some true
end Go.Proofs.YtkefjfpjnghkdaaDoor.XFnExactMeanLength
