/- Proved by hand, over the kit's shelf: strings.Contains at one letter. -/
import Derived.Test.YthlldokmjpfilaaGreatDoorShelfC1
import Derived.Test.YthlldokmjpfilaaGreatDoorWMore
import Derived.WalkKit
namespace Go.Proofs.YthlldokmjpfilaaGreatDoor.Hand
open Go.RowKit Go.Shelf Go.Proofs.YthlldokmjpfilaaGreatDoorW.PrintWords Go.Proofs.YthlldokmjpfilaaGreatDoorW.PrintLast Go.Proofs.YthlldokmjpfilaaGreatDoorW.PrintMore
set_option linter.unusedVariables false
set_option linter.unusedSimpArgs false
def strings_Contains.f (a0 : ByteArray) (a1 : ByteArray) : Option Bool := if a1.size = 1 then some (decide (0 ≤ Lib.indexByte a0.data.toList (a1.data.toList.headD 0))) else none
theorem strings_Contains.calls (a0 : ByteArray) (a1 : ByteArray) (r : Bool) (w : World) (h : strings_Contains.f a0 a1 = some r) :
    Calls Tryz.prog 41 #[.string a0, .string a1] w fun e w' => e = .returned (.bool r) ∧ Drawn0 w w' := by
  unfold strings_Contains.f at h
  split at h
  · rename_i h1
    have hr := (Option.some.inj h).symm
    obtain ⟨c, hc⟩ : ∃ c, a1.data.toList = [c] := List.length_eq_one_iff.1 (by rw [Array.length_toList]; exact h1)
    have ha : a1 = ⟨#[c]⟩ := ByteArray.ext (Array.toList_inj.1 (by rw [hc]))
    subst ha
    have hcon := Any.strings_Contains_one Tryz.lays144 a0 c w
    change Calls Tryz.prog 41 _ _ _ at hcon
    refine hcon.mono ?_
    rintro e w' ⟨rfl, rfl⟩
    exact ⟨by rw [hr]; rfl, 0, rfl⟩
  · cases h
end Go.Proofs.YthlldokmjpfilaaGreatDoor.Hand
