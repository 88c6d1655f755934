-- Written by a program of this session (wip/xprint.py).
import Derived.Test.YtfmkhjoelcbnnaaDoorXFnExactAreLetterAlikex5
namespace Go.Proofs.YtfmkhjoelcbnnaaDoor.XFnExactAreLetterAlike
open Go.RowKit Go.Proofs.YtfmkhjoelcbnnaaDoorW.PrintWords Go.Proofs.YtfmkhjoelcbnnaaDoorW.PrintLast
/-- THE ONE PURE STATEMENT of laws_FnExactAreLetterAlike -/
def laws_FnExactAreLetterAlike.Pure : Prop := ∀ (l0 : List ByteArray) (l1 : List ByteArray), l0.length ≤ maxLen → (∀ s ∈ l0, s.size ≤ maxLen) → l1.length ≤ maxLen → (∀ s ∈ l1, s.size ≤ maxLen) → ∃ k, laws_FnExactAreLetterAlike.f k l0 l1 = some true
end Go.Proofs.YtfmkhjoelcbnnaaDoor.XFnExactAreLetterAlike
