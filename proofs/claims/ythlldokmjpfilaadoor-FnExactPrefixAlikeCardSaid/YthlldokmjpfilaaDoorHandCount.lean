/- Proved by hand, over the kit's shelf: strings.Count at one letter. -/
import Derived.Test.YthlldokmjpfilaaDoorShelfN
import Derived.Test.YthlldokmjpfilaaDoorWMore
import Derived.WalkKit
namespace Go.Proofs.YthlldokmjpfilaaDoor.Hand
open Go.RowKit Go.Shelf Go.Proofs.YthlldokmjpfilaaDoorW.PrintWords Go.Proofs.YthlldokmjpfilaaDoorW.PrintLast Go.Proofs.YthlldokmjpfilaaDoorW.PrintMore
set_option linter.unusedVariables false
set_option linter.unusedSimpArgs false
def strings_Count.f (a0 : ByteArray) (a1 : ByteArray) : Option Int := if a1.size = 1 then some ((a0.data.toList.count (a1.data.toList.headD 0) : Nat) : Int) else none
theorem strings_Count.calls (a0 : ByteArray) (a1 : ByteArray) (r : Int) (w : World) (h : strings_Count.f a0 a1 = some r) :
    Calls Tryd.prog 33 #[.string a0, .string a1] w fun e w' => e = .returned (.int .i64 r) ∧ Below w.heap.size w w' := by
  unfold strings_Count.f at h
  split at h
  · rename_i h1
    have hr := (Option.some.inj h).symm
    obtain ⟨c, hc⟩ : ∃ c, a1.data.toList = [c] := List.length_eq_one_iff.1 (by rw [Array.length_toList]; exact h1)
    have ha : a1 = ⟨#[c]⟩ := ByteArray.ext (Array.toList_inj.1 (by rw [hc]))
    subst ha
    have hcon := Any.strings_Count_one Tryd.lays138 a0 c w
    change Calls Tryd.prog 33 _ _ _ at hcon
    refine hcon.mono ?_
    rintro e w' ⟨rfl, rfl⟩
    exact ⟨by rw [hr]; rfl, Below.refl _ _⟩
  · cases h
end Go.Proofs.YthlldokmjpfilaaDoor.Hand
