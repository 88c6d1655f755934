-- Written by a program of this session (wip/xprint.py).
import Derived.Test.YtkefjfpjnghkdaaDoorXFnExactDecidedWordsx5
namespace Go.Proofs.YtkefjfpjnghkdaaDoor.XFnExactDecidedWords
open Go.RowKit Go.Proofs.YtkefjfpjnghkdaaDoorW.PrintWords Go.Proofs.YtkefjfpjnghkdaaDoorW.PrintLast
/-- THE ONE PURE STATEMENT of laws_FnExactDecidedWords -/
def laws_FnExactDecidedWords.Pure : Prop := ∀ (l0 : List ByteArray) (a1 : ByteArray), l0.length ≤ maxLen → (∀ s ∈ l0, s.size ≤ maxLen) → a1.size ≤ 140737488351232 → ∃ k, laws_FnExactDecidedWords.f k l0 a1 = some true
end Go.Proofs.YtkefjfpjnghkdaaDoor.XFnExactDecidedWords
