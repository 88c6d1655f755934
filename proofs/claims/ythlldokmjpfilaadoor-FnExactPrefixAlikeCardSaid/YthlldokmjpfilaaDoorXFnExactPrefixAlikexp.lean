-- Written by a program of this session (wip/xprint.py).
import Derived.Test.YthlldokmjpfilaaDoorXFnExactPrefixAlikex9
namespace Go.Proofs.YthlldokmjpfilaaDoor.XFnExactPrefixAlike
open Go.RowKit Go.Proofs.YthlldokmjpfilaaDoorW.PrintWords Go.Proofs.YthlldokmjpfilaaDoorW.PrintLast
/-- THE ONE PURE STATEMENT of laws_FnExactPrefixAlike -/
def laws_FnExactPrefixAlike.Pure : Prop := ∀ (l0 : List ByteArray), l0.length ≤ maxLen → (∀ s ∈ l0, s.size ≤ maxLen) → ∃ k, laws_FnExactPrefixAlike.f k l0 = some true
end Go.Proofs.YthlldokmjpfilaaDoor.XFnExactPrefixAlike
