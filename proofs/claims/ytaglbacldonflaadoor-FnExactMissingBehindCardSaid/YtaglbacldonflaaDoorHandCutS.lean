/- Proved by hand, over the kit's shelf: strings.CutPrefix. -/
import Derived.Shelf.Small.Wraps
import Derived.Test.YtaglbacldonflaaDoorShelfC
import Derived.Test.YtaglbacldonflaaDoorProg
import Derived.Test.YtaglbacldonflaaDoorWMore
import Derived.WalkKit
namespace Go.Proofs.YtaglbacldonflaaDoor.Hand
open Go.RowKit Go.Shelf
/-- a text without a beginning -/
def cutS (s p : ByteArray) : ByteArray := ⟨(s.data.toList.drop p.size).toArray⟩
def begS (s p : ByteArray) : Bool := p.data.toList.isPrefixOf s.data.toList
theorem cut_calls (s p : ByteArray) (w : World) : Calls Tryd.prog 52 #[.string s, .string p] w fun e w' => e = .returned (.tuple #[.string (if begS s p = true then cutS s p else s), .bool (begS s p)]) ∧ w' = w := by
  have h := Any.strings_CutPrefix Tryd.lays103 s p w
  change Calls Tryd.prog 52 _ _ _ at h
  have e1 : Lib.hasPrefix s.data.toList p.data.toList = begS s p := rfl
  have e2 : (⟨(Lib.trimPrefix s.data.toList p.data.toList).toArray⟩ : ByteArray) = if begS s p = true then cutS s p else s := by
    by_cases hb : begS s p = true
    · rw [if_pos hb]
      unfold Lib.trimPrefix cutS
      rw [if_pos (by rw [e1]; exact hb)]
      rw [show p.data.toList.length = p.size from Array.length_toList]
    · rw [if_neg hb]
      unfold Lib.trimPrefix
      rw [if_neg (by rw [e1]; exact hb)]
  rw [e1, e2] at h
  exact h
theorem cutS_le (s p : ByteArray) : (cutS s p).size ≤ s.size := by
  show (cutS s p).data.size ≤ s.data.size
  unfold cutS
  simp
end Go.Proofs.YtaglbacldonflaaDoor.Hand
