-- Written by a program of this session (wip/xprint.py).
import Derived.Test.YtaglbacldonflaaDoorXFnExactMeetGeneratorsx8
namespace Go.Proofs.YtaglbacldonflaaDoor.XFnExactMeetGenerators
open Go.RowKit Go.Proofs.YtaglbacldonflaaDoorW.PrintWords Go.Proofs.YtaglbacldonflaaDoorW.PrintLast
/-- THE ONE PURE STATEMENT of laws_FnExactMeetGenerators -/
def laws_FnExactMeetGenerators.Pure : Prop := ∀ (l0 : List ByteArray) (l1 : List ByteArray) (a2 : Int), l0.length ≤ maxLen → (∀ s ∈ l0, s.size ≤ maxLen) → l1.length ≤ maxLen → (∀ s ∈ l1, s.size ≤ maxLen) → (Lit.int .i64 a2).wf = true → ∃ k, laws_FnExactMeetGenerators.f k l0 l1 a2 = some true
end Go.Proofs.YtaglbacldonflaaDoor.XFnExactMeetGenerators
