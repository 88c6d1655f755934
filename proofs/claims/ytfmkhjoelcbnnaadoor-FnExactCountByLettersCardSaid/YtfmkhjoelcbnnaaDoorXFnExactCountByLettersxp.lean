-- Written by a program of this session (wip/xprint.py).
import Derived.Test.YtfmkhjoelcbnnaaDoorXFnExactCountByLettersx7
namespace Go.Proofs.YtfmkhjoelcbnnaaDoor.XFnExactCountByLetters
open Go.RowKit Go.Proofs.YtfmkhjoelcbnnaaDoorW.PrintWords Go.Proofs.YtfmkhjoelcbnnaaDoorW.PrintLast
/-- THE ONE PURE STATEMENT of laws_FnExactCountByLetters -/
def laws_FnExactCountByLetters.Pure : Prop := ∀ (l0 : List ByteArray) (l1 : List Int), l0.length ≤ maxLen → (∀ s ∈ l0, s.size ≤ maxLen) → l1.length ≤ maxLen → l1.length * 8 ≤ 140737488351232 → (∀ x ∈ l1, (Lit.int .i64 x).wf = true) → ∃ k, laws_FnExactCountByLetters.f k l0 l1 = some true
end Go.Proofs.YtfmkhjoelcbnnaaDoor.XFnExactCountByLetters
