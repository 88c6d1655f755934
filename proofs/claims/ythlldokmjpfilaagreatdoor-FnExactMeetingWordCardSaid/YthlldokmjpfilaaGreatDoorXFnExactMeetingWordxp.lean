-- Written by a program of this session (wip/xprint.py).
import Derived.Test.YthlldokmjpfilaaGreatDoorXFnExactMeetingWordx11
namespace Go.Proofs.YthlldokmjpfilaaGreatDoor.XFnExactMeetingWord
open Go.RowKit Go.Proofs.YthlldokmjpfilaaGreatDoorW.PrintWords Go.Proofs.YthlldokmjpfilaaGreatDoorW.PrintLast
/-- THE ONE PURE STATEMENT of laws_FnExactMeetingWord -/
def laws_FnExactMeetingWord.Pure : Prop := ∀ (l0 : List ByteArray) (a1 : Int) (a2 : Int), l0.length ≤ maxLen → (∀ s ∈ l0, s.size ≤ maxLen) → (Lit.int .i64 a1).wf = true → (Lit.int .i64 a2).wf = true → ∃ k, laws_FnExactMeetingWord.f k l0 a1 a2 = some true
end Go.Proofs.YthlldokmjpfilaaGreatDoor.XFnExactMeetingWord
