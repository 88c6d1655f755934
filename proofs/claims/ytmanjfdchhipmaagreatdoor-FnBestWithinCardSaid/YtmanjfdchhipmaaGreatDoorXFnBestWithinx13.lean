-- by wip/shake.py
import Derived.Test.YtmanjfdchhipmaaGreatDoorXFnBestWithinx0
import Derived.Test.YtmanjfdchhipmaaGreatDoorXFnBestWithinx1
import Derived.Test.YtmanjfdchhipmaaGreatDoorXFnBestWithinx3
import Derived.Test.YtmanjfdchhipmaaGreatDoorXFnBestWithinx4
import Derived.Test.YtmanjfdchhipmaaGreatDoorXFnBestWithinx5
import Derived.Test.YtmanjfdchhipmaaGreatDoorXFnBestWithinx7
import Derived.Test.YtmanjfdchhipmaaGreatDoorXFnBestWithinx9
import Derived.Test.YtmanjfdchhipmaaGreatDoorXFnBestWithinx11
import Derived.Test.YtmanjfdchhipmaaGreatDoorXFnBestWithinx12
namespace Go.Proofs.YtmanjfdchhipmaaGreatDoor.XFnBestWithin
open Go.RowKit Go.Proofs.YtmanjfdchhipmaaGreatDoor.Hand Go.Proofs.YtmanjfdchhipmaaGreatDoorW.PrintWords Go.Proofs.YtmanjfdchhipmaaGreatDoorW.PrintLast Go.Proofs.YtmanjfdchhipmaaGreatDoorW.PrintMore
attribute [local go_sem] max2_int min2_int max_two min_two max_three min_three max_four min_four   -- for this text's walks alone
set_option linter.unusedVariables false
set_option linter.unusedSimpArgs false
mutual
def laws_FnBestWithin.j0 : Nat → List Int → List Int → Int → Int → Int → Bool → Bool → Option (Bool)
 | 0, _, _, _, _, _, _, _ => none
 | k + 1, x1, x5, x6, x7, x8, x9, x64 => if x64 = true then (some false) else (if x9 = true then ((impl_BestCost.f k x5 x6).bind fun bt436 => (if bt436.2 = true then (if x8 < bt436.1 then (laws_FnBestWithin.j1 k x1 x5 x6 x7 x8 true) else (if x7 ≥ (x5.length : Int) then (laws_FnBestWithin.j1 k x1 x5 x6 x7 x8 (x8 != bt436.1)) else (laws_FnBestWithin.j1 k x1 x5 x6 x7 x8 false))) else (laws_FnBestWithin.j1 k x1 x5 x6 x7 x8 true))) else (laws_FnBestWithin.j2 k x1))
def laws_FnBestWithin.j2 : Nat → List Int → Option (Bool)
 | 0, _ => none
 | k + 1, x1 => (spec_DrawEvenCost.f x1).bind fun bt440 => ((impl_EvenCost.f k bt440.1 bt440.2).bind fun bt442 => ((spec_EvenCost.f k bt440.1 bt440.2).bind fun bt444 => (if (bt442.2 != bt444.2) = true then (laws_FnBestWithin.j3 k x1 bt440.1 bt440.2 bt442.1 bt442.2 true) else (laws_FnBestWithin.j3 k x1 bt440.1 bt440.2 bt442.1 bt442.2 (bt442.1 != bt444.1)))))
def laws_FnBestWithin.j3 : Nat → List Int → Int → Int → Int → Bool → Bool → Option (Bool)
 | 0, _, _, _, _, _, _ => none
 | k + 1, x1, x16, x17, x18, x19, x131 => if x131 = true then (some false) else (if x19 = true then (laws_FnBestWithin.j4 k x1 x16 x17 x18 (decide (x16 ≤ 12))) else (laws_FnBestWithin.j4 k x1 x16 x17 x18 false))
def laws_FnBestWithin.j4 : Nat → List Int → Int → Int → Int → Bool → Option (Bool)
 | 0, _, _, _, _, _ => none
 | k + 1, x1, x16, x17, x18, x136 => if x136 = true then (if 0 ≤ x16 then (if (x16 : Int).toNat ≤ 35184372088832 then ((some (List.replicate (x16 : Int).toNat 0 : List Int)).bind fun y446 => (laws_FnBestWithin.l0 k x1 x17 x18 y446 (y446.length : Int) 0)) else (none)) else (none)) else (laws_FnBestWithin.j6 k x1)
def laws_FnBestWithin.j6 : Nat → List Int → Option (Bool)
 | 0, _ => none
 | k + 1, x1 => (spec_DrawWordsFor.f k x1).bind fun bt452 => ((impl_WordsFor.f k bt452.1 bt452.2).bind fun bt456 => ((spec_WordsFor.f k bt452.1 bt452.2).bind fun bt460 => (if (bt456.2 != bt460.2) = true then (laws_FnBestWithin.j7 k bt452.1 bt456.1 bt456.2 true) else ((laws_yTexts.f k bt456.1 bt460.1).bind fun t464 => (laws_FnBestWithin.j7 k bt452.1 bt456.1 bt456.2 (!t464))))))
def laws_FnBestWithin.j7 : Nat → List Int → List ByteArray → Bool → Bool → Option (Bool)
 | 0, _, _, _, _ => none
 | k + 1, x26, x28, x29, x186 => if x186 = true then (some false) else (if x29 = true then ((laws_yPrefix.f k x28).bind fun t465 => (if t465 = true then (laws_FnBestWithin.j8 k x26 x28 ((x28.length : Int) != (x26.length : Int))) else (laws_FnBestWithin.j8 k x26 x28 true))) else (some true))
def laws_FnBestWithin.j8 : Nat → List Int → List ByteArray → Bool → Option (Bool)
 | 0, _, _, _ => none
 | k + 1, x26, x28, x197 => if x197 = true then (some false) else (laws_FnBestWithin.l1 k x26 x28 (x28.length : Int) 0)
def laws_FnBestWithin.l1 : Nat → List Int → List ByteArray → Int → Int → Option (Bool)
 | 0, _, _, _, _ => none
 | k + 1, x26, x198, x199, x200 => if x200 < x199 then (if 0 ≤ x200 then (if x200 < (x198.length : Int) then (if x200 < (x26.length : Int) then (if ((rdOf ByteArray.empty x198 x200).size : Int) = (rd x26 x200) then ((impl_IsWord.f (rdOf ByteArray.empty x198 x200)).bind fun t468 => (if t468 = true then (laws_FnBestWithin.l1 k x26 x198 x199 (wrap64 (x200 + 1))) else (some false))) else (some false)) else (none)) else (none)) else (none)) else (some true)
def laws_FnBestWithin.l0 : Nat → List Int → Int → Int → List Int → Int → Int → Option (Bool)
 | 0, _, _, _, _, _, _ => none
 | k + 1, x1, x17, x18, x22, x140, x141 => if x141 < x140 then (if 0 ≤ x141 then (if x141 < (x22.length : Int) then (laws_FnBestWithin.l0 k x1 x17 x18 (x22.set (x141 : Int).toNat 1) x140 (wrap64 (x141 + 1))) else (none)) else (none)) else ((impl_BestCost.f k x22 x17).bind fun bt450 => (if bt450.2 = true then (if bt450.1 = x18 then (laws_FnBestWithin.j6 k x1) else (some false)) else (some false)))
def laws_FnBestWithin.j1 : Nat → List Int → List Int → Int → Int → Int → Bool → Option (Bool)
 | 0, _, _, _, _, _, _ => none
 | k + 1, x1, x5, x6, x7, x8, x89 => if x89 = true then (some false) else (if x7 < 11 then ((impl_BestWithin.f k x5 x6 (wrap64 (x7 + 1))).bind fun bt438 => (if bt438.2 = true then (if bt438.1 > x8 then (some false) else (laws_FnBestWithin.j2 k x1)) else (some false))) else (laws_FnBestWithin.j2 k x1))
end
def laws_FnBestWithin.f (k : Nat) (l0 : List Int) (l1 : List Int) : Option (Bool) := (laws_big.f l0 l1).bind fun t426 => (if t426 = true then (some true) else ((spec_DrawBestWithin.f k l0).bind fun bt427 => ((impl_BestWithin.f k bt427.1 bt427.2.1 bt427.2.2).bind fun bt432 => ((spec_BestWithin.f k bt427.1 bt427.2.1 bt427.2.2).bind fun bt434 => (if (bt432.2 != bt434.2) = true then (laws_FnBestWithin.j0 k l1 bt427.1 bt427.2.1 bt427.2.2 bt432.1 bt432.2 true) else (laws_FnBestWithin.j0 k l1 bt427.1 bt427.2.1 bt427.2.2 bt432.1 bt432.2 (bt432.1 != bt434.1)))))))
theorem laws_FnBestWithin.mono_l : ∀ k, (∀ y0 y1 y2 y3 y4 y5 y6, LeO (laws_FnBestWithin.j0 k y0 y1 y2 y3 y4 y5 y6) (laws_FnBestWithin.j0 (k + 1) y0 y1 y2 y3 y4 y5 y6)) ∧ (∀ y0, LeO (laws_FnBestWithin.j2 k y0) (laws_FnBestWithin.j2 (k + 1) y0)) ∧ (∀ y0 y1 y2 y3 y4 y5, LeO (laws_FnBestWithin.j3 k y0 y1 y2 y3 y4 y5) (laws_FnBestWithin.j3 (k + 1) y0 y1 y2 y3 y4 y5)) ∧ (∀ y0 y1 y2 y3 y4, LeO (laws_FnBestWithin.j4 k y0 y1 y2 y3 y4) (laws_FnBestWithin.j4 (k + 1) y0 y1 y2 y3 y4)) ∧ (∀ y0, LeO (laws_FnBestWithin.j6 k y0) (laws_FnBestWithin.j6 (k + 1) y0)) ∧ (∀ y0 y1 y2 y3, LeO (laws_FnBestWithin.j7 k y0 y1 y2 y3) (laws_FnBestWithin.j7 (k + 1) y0 y1 y2 y3)) ∧ (∀ y0 y1 y2, LeO (laws_FnBestWithin.j8 k y0 y1 y2) (laws_FnBestWithin.j8 (k + 1) y0 y1 y2)) ∧ (∀ y0 y1 y2 y3, LeO (laws_FnBestWithin.l1 k y0 y1 y2 y3) (laws_FnBestWithin.l1 (k + 1) y0 y1 y2 y3)) ∧ (∀ y0 y1 y2 y3 y4 y5, LeO (laws_FnBestWithin.l0 k y0 y1 y2 y3 y4 y5) (laws_FnBestWithin.l0 (k + 1) y0 y1 y2 y3 y4 y5)) ∧ (∀ y0 y1 y2 y3 y4 y5, LeO (laws_FnBestWithin.j1 k y0 y1 y2 y3 y4 y5) (laws_FnBestWithin.j1 (k + 1) y0 y1 y2 y3 y4 y5))
 | 0 => ⟨fun _ _ _ _ _ _ _ r h => by simp [laws_FnBestWithin.j0] at h, fun _ r h => by simp [laws_FnBestWithin.j2] at h, fun _ _ _ _ _ _ r h => by simp [laws_FnBestWithin.j3] at h, fun _ _ _ _ _ r h => by simp [laws_FnBestWithin.j4] at h, fun _ r h => by simp [laws_FnBestWithin.j6] at h, fun _ _ _ _ r h => by simp [laws_FnBestWithin.j7] at h, fun _ _ _ r h => by simp [laws_FnBestWithin.j8] at h, fun _ _ _ _ r h => by simp [laws_FnBestWithin.l1] at h, fun _ _ _ _ _ _ r h => by simp [laws_FnBestWithin.l0] at h, fun _ _ _ _ _ _ r h => by simp [laws_FnBestWithin.j1] at h⟩
 | k + 1 => by
  obtain ⟨ih0, ih1, ih2, ih3, ih4, ih5, ih6, ih7, ih8, ih9⟩ := laws_FnBestWithin.mono_l k
  refine ⟨?_, ?_, ?_, ?_, ?_, ?_, ?_, ?_, ?_, ?_⟩
  ·intro y0 y1 y2 y3 y4 y5 y6
   unfold laws_FnBestWithin.j0
   repeat' first
   | (with_reducible first | exact ih0 _ _ _ _ _ _ _ | exact ih1 _ | exact ih2 _ _ _ _ _ _ | exact ih3 _ _ _ _ _ | exact ih4 _ | exact ih5 _ _ _ _ | exact ih6 _ _ _ | exact ih7 _ _ _ _ | exact ih8 _ _ _ _ _ _ | exact ih9 _ _ _ _ _ _ | exact impl_BestCost.mono _ _ _ | exact impl_BestWithin.mono _ _ _ _ | exact impl_EvenCost.mono _ _ _ | exact impl_WordsFor.mono _ _ _ | exact laws_yPrefix.mono _ _ | exact laws_yTexts.mono _ _ _ | exact spec_BestWithin.mono _ _ _ _ | exact spec_DrawBestWithin.mono _ _ | exact spec_DrawWordsFor.mono _ _ | exact spec_EvenCost.mono _ _ _ | exact spec_WordsFor.mono _ _ _ | exact LeO.refl _ | exact LeO.none _ | refine LeO.ite ?_ ?_ | refine LeO.bind ?_ (fun _ => ?_))
   | exact ih0 _ _ _ _ _ _ _
   | exact ih1 _
   | exact ih2 _ _ _ _ _ _
   | exact ih3 _ _ _ _ _
   | exact ih4 _
   | exact ih5 _ _ _ _
   | exact ih6 _ _ _
   | exact ih7 _ _ _ _
   | exact ih8 _ _ _ _ _ _
   | exact ih9 _ _ _ _ _ _
   | exact impl_BestCost.mono _ _ _
   | exact impl_BestWithin.mono _ _ _ _
   | exact impl_EvenCost.mono _ _ _
   | exact impl_WordsFor.mono _ _ _
   | exact laws_yPrefix.mono _ _
   | exact laws_yTexts.mono _ _ _
   | exact spec_BestWithin.mono _ _ _ _
   | exact spec_DrawBestWithin.mono _ _
   | exact spec_DrawWordsFor.mono _ _
   | exact spec_EvenCost.mono _ _ _
   | exact spec_WordsFor.mono _ _ _
   | exact LeO.none _
   | refine LeO.ite ?_ ?_
   | refine LeO.bind ?_ (fun _ => ?_)
  ·intro y0
   unfold laws_FnBestWithin.j2
   repeat' first
   | (with_reducible first | exact ih0 _ _ _ _ _ _ _ | exact ih1 _ | exact ih2 _ _ _ _ _ _ | exact ih3 _ _ _ _ _ | exact ih4 _ | exact ih5 _ _ _ _ | exact ih6 _ _ _ | exact ih7 _ _ _ _ | exact ih8 _ _ _ _ _ _ | exact ih9 _ _ _ _ _ _ | exact impl_BestCost.mono _ _ _ | exact impl_BestWithin.mono _ _ _ _ | exact impl_EvenCost.mono _ _ _ | exact impl_WordsFor.mono _ _ _ | exact laws_yPrefix.mono _ _ | exact laws_yTexts.mono _ _ _ | exact spec_BestWithin.mono _ _ _ _ | exact spec_DrawBestWithin.mono _ _ | exact spec_DrawWordsFor.mono _ _ | exact spec_EvenCost.mono _ _ _ | exact spec_WordsFor.mono _ _ _ | exact LeO.refl _ | exact LeO.none _ | refine LeO.ite ?_ ?_ | refine LeO.bind ?_ (fun _ => ?_))
   | exact ih0 _ _ _ _ _ _ _
   | exact ih1 _
   | exact ih2 _ _ _ _ _ _
   | exact ih3 _ _ _ _ _
   | exact ih4 _
   | exact ih5 _ _ _ _
   | exact ih6 _ _ _
   | exact ih7 _ _ _ _
   | exact ih8 _ _ _ _ _ _
   | exact ih9 _ _ _ _ _ _
   | exact impl_BestCost.mono _ _ _
   | exact impl_BestWithin.mono _ _ _ _
   | exact impl_EvenCost.mono _ _ _
   | exact impl_WordsFor.mono _ _ _
   | exact laws_yPrefix.mono _ _
   | exact laws_yTexts.mono _ _ _
   | exact spec_BestWithin.mono _ _ _ _
   | exact spec_DrawBestWithin.mono _ _
   | exact spec_DrawWordsFor.mono _ _
   | exact spec_EvenCost.mono _ _ _
   | exact spec_WordsFor.mono _ _ _
   | exact LeO.none _
   | refine LeO.ite ?_ ?_
   | refine LeO.bind ?_ (fun _ => ?_)
  ·intro y0 y1 y2 y3 y4 y5
   unfold laws_FnBestWithin.j3
   repeat' first
   | (with_reducible first | exact ih0 _ _ _ _ _ _ _ | exact ih1 _ | exact ih2 _ _ _ _ _ _ | exact ih3 _ _ _ _ _ | exact ih4 _ | exact ih5 _ _ _ _ | exact ih6 _ _ _ | exact ih7 _ _ _ _ | exact ih8 _ _ _ _ _ _ | exact ih9 _ _ _ _ _ _ | exact impl_BestCost.mono _ _ _ | exact impl_BestWithin.mono _ _ _ _ | exact impl_EvenCost.mono _ _ _ | exact impl_WordsFor.mono _ _ _ | exact laws_yPrefix.mono _ _ | exact laws_yTexts.mono _ _ _ | exact spec_BestWithin.mono _ _ _ _ | exact spec_DrawBestWithin.mono _ _ | exact spec_DrawWordsFor.mono _ _ | exact spec_EvenCost.mono _ _ _ | exact spec_WordsFor.mono _ _ _ | exact LeO.refl _ | exact LeO.none _ | refine LeO.ite ?_ ?_ | refine LeO.bind ?_ (fun _ => ?_))
   | exact ih0 _ _ _ _ _ _ _
   | exact ih1 _
   | exact ih2 _ _ _ _ _ _
   | exact ih3 _ _ _ _ _
   | exact ih4 _
   | exact ih5 _ _ _ _
   | exact ih6 _ _ _
   | exact ih7 _ _ _ _
   | exact ih8 _ _ _ _ _ _
   | exact ih9 _ _ _ _ _ _
   | exact impl_BestCost.mono _ _ _
   | exact impl_BestWithin.mono _ _ _ _
   | exact impl_EvenCost.mono _ _ _
   | exact impl_WordsFor.mono _ _ _
   | exact laws_yPrefix.mono _ _
   | exact laws_yTexts.mono _ _ _
   | exact spec_BestWithin.mono _ _ _ _
   | exact spec_DrawBestWithin.mono _ _
   | exact spec_DrawWordsFor.mono _ _
   | exact spec_EvenCost.mono _ _ _
   | exact spec_WordsFor.mono _ _ _
   | exact LeO.none _
   | refine LeO.ite ?_ ?_
   | refine LeO.bind ?_ (fun _ => ?_)
  ·intro y0 y1 y2 y3 y4
   unfold laws_FnBestWithin.j4
   repeat' first
   | (with_reducible first | exact ih0 _ _ _ _ _ _ _ | exact ih1 _ | exact ih2 _ _ _ _ _ _ | exact ih3 _ _ _ _ _ | exact ih4 _ | exact ih5 _ _ _ _ | exact ih6 _ _ _ | exact ih7 _ _ _ _ | exact ih8 _ _ _ _ _ _ | exact ih9 _ _ _ _ _ _ | exact impl_BestCost.mono _ _ _ | exact impl_BestWithin.mono _ _ _ _ | exact impl_EvenCost.mono _ _ _ | exact impl_WordsFor.mono _ _ _ | exact laws_yPrefix.mono _ _ | exact laws_yTexts.mono _ _ _ | exact spec_BestWithin.mono _ _ _ _ | exact spec_DrawBestWithin.mono _ _ | exact spec_DrawWordsFor.mono _ _ | exact spec_EvenCost.mono _ _ _ | exact spec_WordsFor.mono _ _ _ | exact LeO.refl _ | exact LeO.none _ | refine LeO.ite ?_ ?_ | refine LeO.bind ?_ (fun _ => ?_))
   | exact ih0 _ _ _ _ _ _ _
   | exact ih1 _
   | exact ih2 _ _ _ _ _ _
   | exact ih3 _ _ _ _ _
   | exact ih4 _
   | exact ih5 _ _ _ _
   | exact ih6 _ _ _
   | exact ih7 _ _ _ _
   | exact ih8 _ _ _ _ _ _
   | exact ih9 _ _ _ _ _ _
   | exact impl_BestCost.mono _ _ _
   | exact impl_BestWithin.mono _ _ _ _
   | exact impl_EvenCost.mono _ _ _
   | exact impl_WordsFor.mono _ _ _
   | exact laws_yPrefix.mono _ _
   | exact laws_yTexts.mono _ _ _
   | exact spec_BestWithin.mono _ _ _ _
   | exact spec_DrawBestWithin.mono _ _
   | exact spec_DrawWordsFor.mono _ _
   | exact spec_EvenCost.mono _ _ _
   | exact spec_WordsFor.mono _ _ _
   | exact LeO.none _
   | refine LeO.ite ?_ ?_
   | refine LeO.bind ?_ (fun _ => ?_)
  ·intro y0
   unfold laws_FnBestWithin.j6
   repeat' first
   | (with_reducible first | exact ih0 _ _ _ _ _ _ _ | exact ih1 _ | exact ih2 _ _ _ _ _ _ | exact ih3 _ _ _ _ _ | exact ih4 _ | exact ih5 _ _ _ _ | exact ih6 _ _ _ | exact ih7 _ _ _ _ | exact ih8 _ _ _ _ _ _ | exact ih9 _ _ _ _ _ _ | exact impl_BestCost.mono _ _ _ | exact impl_BestWithin.mono _ _ _ _ | exact impl_EvenCost.mono _ _ _ | exact impl_WordsFor.mono _ _ _ | exact laws_yPrefix.mono _ _ | exact laws_yTexts.mono _ _ _ | exact spec_BestWithin.mono _ _ _ _ | exact spec_DrawBestWithin.mono _ _ | exact spec_DrawWordsFor.mono _ _ | exact spec_EvenCost.mono _ _ _ | exact spec_WordsFor.mono _ _ _ | exact LeO.refl _ | exact LeO.none _ | refine LeO.ite ?_ ?_ | refine LeO.bind ?_ (fun _ => ?_))
   | exact ih0 _ _ _ _ _ _ _
   | exact ih1 _
   | exact ih2 _ _ _ _ _ _
   | exact ih3 _ _ _ _ _
   | exact ih4 _
   | exact ih5 _ _ _ _
   | exact ih6 _ _ _
   | exact ih7 _ _ _ _
   | exact ih8 _ _ _ _ _ _
   | exact ih9 _ _ _ _ _ _
   | exact impl_BestCost.mono _ _ _
   | exact impl_BestWithin.mono _ _ _ _
   | exact impl_EvenCost.mono _ _ _
   | exact impl_WordsFor.mono _ _ _
   | exact laws_yPrefix.mono _ _
   | exact laws_yTexts.mono _ _ _
   | exact spec_BestWithin.mono _ _ _ _
   | exact spec_DrawBestWithin.mono _ _
   | exact spec_DrawWordsFor.mono _ _
   | exact spec_EvenCost.mono _ _ _
   | exact spec_WordsFor.mono _ _ _
   | exact LeO.none _
   | refine LeO.ite ?_ ?_
   | refine LeO.bind ?_ (fun _ => ?_)
  ·intro y0 y1 y2 y3
   unfold laws_FnBestWithin.j7
   repeat' first
   | (with_reducible first | exact ih0 _ _ _ _ _ _ _ | exact ih1 _ | exact ih2 _ _ _ _ _ _ | exact ih3 _ _ _ _ _ | exact ih4 _ | exact ih5 _ _ _ _ | exact ih6 _ _ _ | exact ih7 _ _ _ _ | exact ih8 _ _ _ _ _ _ | exact ih9 _ _ _ _ _ _ | exact impl_BestCost.mono _ _ _ | exact impl_BestWithin.mono _ _ _ _ | exact impl_EvenCost.mono _ _ _ | exact impl_WordsFor.mono _ _ _ | exact laws_yPrefix.mono _ _ | exact laws_yTexts.mono _ _ _ | exact spec_BestWithin.mono _ _ _ _ | exact spec_DrawBestWithin.mono _ _ | exact spec_DrawWordsFor.mono _ _ | exact spec_EvenCost.mono _ _ _ | exact spec_WordsFor.mono _ _ _ | exact LeO.refl _ | exact LeO.none _ | refine LeO.ite ?_ ?_ | refine LeO.bind ?_ (fun _ => ?_))
   | exact ih0 _ _ _ _ _ _ _
   | exact ih1 _
   | exact ih2 _ _ _ _ _ _
   | exact ih3 _ _ _ _ _
   | exact ih4 _
   | exact ih5 _ _ _ _
   | exact ih6 _ _ _
   | exact ih7 _ _ _ _
   | exact ih8 _ _ _ _ _ _
   | exact ih9 _ _ _ _ _ _
   | exact impl_BestCost.mono _ _ _
   | exact impl_BestWithin.mono _ _ _ _
   | exact impl_EvenCost.mono _ _ _
   | exact impl_WordsFor.mono _ _ _
   | exact laws_yPrefix.mono _ _
   | exact laws_yTexts.mono _ _ _
   | exact spec_BestWithin.mono _ _ _ _
   | exact spec_DrawBestWithin.mono _ _
   | exact spec_DrawWordsFor.mono _ _
   | exact spec_EvenCost.mono _ _ _
   | exact spec_WordsFor.mono _ _ _
   | exact LeO.none _
   | refine LeO.ite ?_ ?_
   | refine LeO.bind ?_ (fun _ => ?_)
  ·intro y0 y1 y2
   unfold laws_FnBestWithin.j8
   repeat' first
   | (with_reducible first | exact ih0 _ _ _ _ _ _ _ | exact ih1 _ | exact ih2 _ _ _ _ _ _ | exact ih3 _ _ _ _ _ | exact ih4 _ | exact ih5 _ _ _ _ | exact ih6 _ _ _ | exact ih7 _ _ _ _ | exact ih8 _ _ _ _ _ _ | exact ih9 _ _ _ _ _ _ | exact impl_BestCost.mono _ _ _ | exact impl_BestWithin.mono _ _ _ _ | exact impl_EvenCost.mono _ _ _ | exact impl_WordsFor.mono _ _ _ | exact laws_yPrefix.mono _ _ | exact laws_yTexts.mono _ _ _ | exact spec_BestWithin.mono _ _ _ _ | exact spec_DrawBestWithin.mono _ _ | exact spec_DrawWordsFor.mono _ _ | exact spec_EvenCost.mono _ _ _ | exact spec_WordsFor.mono _ _ _ | exact LeO.refl _ | exact LeO.none _ | refine LeO.ite ?_ ?_ | refine LeO.bind ?_ (fun _ => ?_))
   | exact ih0 _ _ _ _ _ _ _
   | exact ih1 _
   | exact ih2 _ _ _ _ _ _
   | exact ih3 _ _ _ _ _
   | exact ih4 _
   | exact ih5 _ _ _ _
   | exact ih6 _ _ _
   | exact ih7 _ _ _ _
   | exact ih8 _ _ _ _ _ _
   | exact ih9 _ _ _ _ _ _
   | exact impl_BestCost.mono _ _ _
   | exact impl_BestWithin.mono _ _ _ _
   | exact impl_EvenCost.mono _ _ _
   | exact impl_WordsFor.mono _ _ _
   | exact laws_yPrefix.mono _ _
   | exact laws_yTexts.mono _ _ _
   | exact spec_BestWithin.mono _ _ _ _
   | exact spec_DrawBestWithin.mono _ _
   | exact spec_DrawWordsFor.mono _ _
   | exact spec_EvenCost.mono _ _ _
   | exact spec_WordsFor.mono _ _ _
   | exact LeO.none _
   | refine LeO.ite ?_ ?_
   | refine LeO.bind ?_ (fun _ => ?_)
  ·intro y0 y1 y2 y3
   unfold laws_FnBestWithin.l1
   repeat' first
   | (with_reducible first | exact ih0 _ _ _ _ _ _ _ | exact ih1 _ | exact ih2 _ _ _ _ _ _ | exact ih3 _ _ _ _ _ | exact ih4 _ | exact ih5 _ _ _ _ | exact ih6 _ _ _ | exact ih7 _ _ _ _ | exact ih8 _ _ _ _ _ _ | exact ih9 _ _ _ _ _ _ | exact impl_BestCost.mono _ _ _ | exact impl_BestWithin.mono _ _ _ _ | exact impl_EvenCost.mono _ _ _ | exact impl_WordsFor.mono _ _ _ | exact laws_yPrefix.mono _ _ | exact laws_yTexts.mono _ _ _ | exact spec_BestWithin.mono _ _ _ _ | exact spec_DrawBestWithin.mono _ _ | exact spec_DrawWordsFor.mono _ _ | exact spec_EvenCost.mono _ _ _ | exact spec_WordsFor.mono _ _ _ | exact LeO.refl _ | exact LeO.none _ | refine LeO.ite ?_ ?_ | refine LeO.bind ?_ (fun _ => ?_))
   | exact ih0 _ _ _ _ _ _ _
   | exact ih1 _
   | exact ih2 _ _ _ _ _ _
   | exact ih3 _ _ _ _ _
   | exact ih4 _
   | exact ih5 _ _ _ _
   | exact ih6 _ _ _
   | exact ih7 _ _ _ _
   | exact ih8 _ _ _ _ _ _
   | exact ih9 _ _ _ _ _ _
   | exact impl_BestCost.mono _ _ _
   | exact impl_BestWithin.mono _ _ _ _
   | exact impl_EvenCost.mono _ _ _
   | exact impl_WordsFor.mono _ _ _
   | exact laws_yPrefix.mono _ _
   | exact laws_yTexts.mono _ _ _
   | exact spec_BestWithin.mono _ _ _ _
   | exact spec_DrawBestWithin.mono _ _
   | exact spec_DrawWordsFor.mono _ _
   | exact spec_EvenCost.mono _ _ _
   | exact spec_WordsFor.mono _ _ _
   | exact LeO.none _
   | refine LeO.ite ?_ ?_
   | refine LeO.bind ?_ (fun _ => ?_)
  ·intro y0 y1 y2 y3 y4 y5
   unfold laws_FnBestWithin.l0
   repeat' first
   | (with_reducible first | exact ih0 _ _ _ _ _ _ _ | exact ih1 _ | exact ih2 _ _ _ _ _ _ | exact ih3 _ _ _ _ _ | exact ih4 _ | exact ih5 _ _ _ _ | exact ih6 _ _ _ | exact ih7 _ _ _ _ | exact ih8 _ _ _ _ _ _ | exact ih9 _ _ _ _ _ _ | exact impl_BestCost.mono _ _ _ | exact impl_BestWithin.mono _ _ _ _ | exact impl_EvenCost.mono _ _ _ | exact impl_WordsFor.mono _ _ _ | exact laws_yPrefix.mono _ _ | exact laws_yTexts.mono _ _ _ | exact spec_BestWithin.mono _ _ _ _ | exact spec_DrawBestWithin.mono _ _ | exact spec_DrawWordsFor.mono _ _ | exact spec_EvenCost.mono _ _ _ | exact spec_WordsFor.mono _ _ _ | exact LeO.refl _ | exact LeO.none _ | refine LeO.ite ?_ ?_ | refine LeO.bind ?_ (fun _ => ?_))
   | exact ih0 _ _ _ _ _ _ _
   | exact ih1 _
   | exact ih2 _ _ _ _ _ _
   | exact ih3 _ _ _ _ _
   | exact ih4 _
   | exact ih5 _ _ _ _
   | exact ih6 _ _ _
   | exact ih7 _ _ _ _
   | exact ih8 _ _ _ _ _ _
   | exact ih9 _ _ _ _ _ _
   | exact impl_BestCost.mono _ _ _
   | exact impl_BestWithin.mono _ _ _ _
   | exact impl_EvenCost.mono _ _ _
   | exact impl_WordsFor.mono _ _ _
   | exact laws_yPrefix.mono _ _
   | exact laws_yTexts.mono _ _ _
   | exact spec_BestWithin.mono _ _ _ _
   | exact spec_DrawBestWithin.mono _ _
   | exact spec_DrawWordsFor.mono _ _
   | exact spec_EvenCost.mono _ _ _
   | exact spec_WordsFor.mono _ _ _
   | exact LeO.none _
   | refine LeO.ite ?_ ?_
   | refine LeO.bind ?_ (fun _ => ?_)
  ·intro y0 y1 y2 y3 y4 y5
   unfold laws_FnBestWithin.j1
   repeat' first
   | (with_reducible first | exact ih0 _ _ _ _ _ _ _ | exact ih1 _ | exact ih2 _ _ _ _ _ _ | exact ih3 _ _ _ _ _ | exact ih4 _ | exact ih5 _ _ _ _ | exact ih6 _ _ _ | exact ih7 _ _ _ _ | exact ih8 _ _ _ _ _ _ | exact ih9 _ _ _ _ _ _ | exact impl_BestCost.mono _ _ _ | exact impl_BestWithin.mono _ _ _ _ | exact impl_EvenCost.mono _ _ _ | exact impl_WordsFor.mono _ _ _ | exact laws_yPrefix.mono _ _ | exact laws_yTexts.mono _ _ _ | exact spec_BestWithin.mono _ _ _ _ | exact spec_DrawBestWithin.mono _ _ | exact spec_DrawWordsFor.mono _ _ | exact spec_EvenCost.mono _ _ _ | exact spec_WordsFor.mono _ _ _ | exact LeO.refl _ | exact LeO.none _ | refine LeO.ite ?_ ?_ | refine LeO.bind ?_ (fun _ => ?_))
   | exact ih0 _ _ _ _ _ _ _
   | exact ih1 _
   | exact ih2 _ _ _ _ _ _
   | exact ih3 _ _ _ _ _
   | exact ih4 _
   | exact ih5 _ _ _ _
   | exact ih6 _ _ _
   | exact ih7 _ _ _ _
   | exact ih8 _ _ _ _ _ _
   | exact ih9 _ _ _ _ _ _
   | exact impl_BestCost.mono _ _ _
   | exact impl_BestWithin.mono _ _ _ _
   | exact impl_EvenCost.mono _ _ _
   | exact impl_WordsFor.mono _ _ _
   | exact laws_yPrefix.mono _ _
   | exact laws_yTexts.mono _ _ _
   | exact spec_BestWithin.mono _ _ _ _
   | exact spec_DrawBestWithin.mono _ _
   | exact spec_DrawWordsFor.mono _ _
   | exact spec_EvenCost.mono _ _ _
   | exact spec_WordsFor.mono _ _ _
   | exact LeO.none _
   | refine LeO.ite ?_ ?_
   | refine LeO.bind ?_ (fun _ => ?_)
theorem laws_FnBestWithin.mono : ∀ a0 a1 k, LeO (laws_FnBestWithin.f k a0 a1) (laws_FnBestWithin.f (k + 1) a0 a1) := by
 intro a0 a1 k
 obtain ⟨ih0, ih1, ih2, ih3, ih4, ih5, ih6, ih7, ih8, ih9⟩ := laws_FnBestWithin.mono_l k
 unfold laws_FnBestWithin.f
 repeat' first
   | (with_reducible first | exact ih0 _ _ _ _ _ _ _ | exact ih1 _ | exact ih2 _ _ _ _ _ _ | exact ih3 _ _ _ _ _ | exact ih4 _ | exact ih5 _ _ _ _ | exact ih6 _ _ _ | exact ih7 _ _ _ _ | exact ih8 _ _ _ _ _ _ | exact ih9 _ _ _ _ _ _ | exact impl_BestCost.mono _ _ _ | exact impl_BestWithin.mono _ _ _ _ | exact impl_EvenCost.mono _ _ _ | exact impl_WordsFor.mono _ _ _ | exact laws_yPrefix.mono _ _ | exact laws_yTexts.mono _ _ _ | exact spec_BestWithin.mono _ _ _ _ | exact spec_DrawBestWithin.mono _ _ | exact spec_DrawWordsFor.mono _ _ | exact spec_EvenCost.mono _ _ _ | exact spec_WordsFor.mono _ _ _ | exact LeO.refl _ | exact LeO.none _ | refine LeO.ite ?_ ?_ | refine LeO.bind ?_ (fun _ => ?_))
   | exact ih0 _ _ _ _ _ _ _
   | exact ih1 _
   | exact ih2 _ _ _ _ _ _
   | exact ih3 _ _ _ _ _
   | exact ih4 _
   | exact ih5 _ _ _ _
   | exact ih6 _ _ _
   | exact ih7 _ _ _ _
   | exact ih8 _ _ _ _ _ _
   | exact ih9 _ _ _ _ _ _
   | exact impl_BestCost.mono _ _ _
   | exact impl_BestWithin.mono _ _ _ _
   | exact impl_EvenCost.mono _ _ _
   | exact impl_WordsFor.mono _ _ _
   | exact laws_yPrefix.mono _ _
   | exact laws_yTexts.mono _ _ _
   | exact spec_BestWithin.mono _ _ _ _
   | exact spec_DrawBestWithin.mono _ _
   | exact spec_DrawWordsFor.mono _ _
   | exact spec_EvenCost.mono _ _ _
   | exact spec_WordsFor.mono _ _ _
   | exact LeO.none _
   | refine LeO.ite ?_ ?_
   | refine LeO.bind ?_ (fun _ => ?_)
theorem wp_cutK {P : Program} {s y : Code} {K : Act → World → Prop} {Q' Q2 : Exit → Act → World → Prop} {a : Act} {w : World} (hK : ∀ a w, y.wp P Q2 a w → K a w) (first : ∀ K' : Act → World → Prop, Aside0 (∀ a w, y.wp P Q2 a w → K' a w) → s.wp P (Exit.then K' Q') a w) : s.wp P (Exit.then K Q') a w := first K ⟨hK⟩
def cA : Code → Code
 | .seq a _ => a
 | c => c
def cB : Code → Code
 | .seq _ b => b
 | c => c
def cT : Code → Code
 | .cond _ a _ => a
 | c => c
theorem cond_of {P : Program} {c x y : Code} {o : Operand} {Q : Exit → Act → World → Prop} {K : Act → World → Prop} (h : c = .cond o x y) (h1 : ∀ a w, c.wp P Q a w → K a w) : ∀ a w, (Code.cond o x y).wp P Q a w → K a w := h ▸ h1
theorem seq_of {P : Program} {c x y : Code} {Q : Exit → Act → World → Prop} {K : Act → World → Prop} (h : c = .seq x y) (h1 : ∀ a w, c.wp P Q a w → K a w) : ∀ a w, (Code.seq x y).wp P Q a w → K a w := h ▸ h1
end Go.Proofs.YtmanjfdchhipmaaGreatDoor.XFnBestWithin
