-- by wip/shake.py
import Derived.Test.YtcdmmpbcjcajlaaXFnOrderedCodesx0
import Derived.Test.YtcdmmpbcjcajlaaXFnOrderedCodesx1
import Derived.Test.YtcdmmpbcjcajlaaXFnOrderedCodesx4
import Derived.Test.YtcdmmpbcjcajlaaXFnOrderedCodesx6
import Derived.Test.YtcdmmpbcjcajlaaXFnOrderedCodesx8
import Derived.Test.YtcdmmpbcjcajlaaXFnOrderedCodesx9
import Derived.Test.YtcdmmpbcjcajlaaXFnOrderedCodesx10
import Derived.Test.YtcdmmpbcjcajlaaXFnOrderedCodesx12
import Derived.Test.YtcdmmpbcjcajlaaXFnOrderedCodesx13
namespace Go.Proofs.Ytcdmmpbcjcajlaa.XFnOrderedCodes
open Go.RowKit Go.Proofs.Ytcdmmpbcjcajlaa.Hand Go.Proofs.YtcdmmpbcjcajlaaW.PrintWords Go.Proofs.YtcdmmpbcjcajlaaW.PrintLast Go.Proofs.YtcdmmpbcjcajlaaW.PrintMore
attribute [local go_sem] max2_int min2_int max_two min_two max_three min_three max_four min_four   -- for this text's walks alone
set_option linter.unusedVariables false
set_option linter.unusedSimpArgs false
theorem laws_FnOrderedCodes.bl_le : ∀ x y : List UInt8, (Op.bytesLess x y || x == y) = !(Op.bytesLess y x)
 | [], [] => by simp [Op.bytesLess]
 | [], _ :: _ => by simp [Op.bytesLess]
 | _ :: _, [] => by simp [Op.bytesLess]
 | a :: x, b :: y => by
   have ih := laws_FnOrderedCodes.bl_le x y
   simp only [Op.bytesLess, List.cons_beq_cons]
   rcases Nat.lt_trichotomy a.toNat b.toNat with h | h | h
   ·have h1 : (decide (a < b)) = true := decide_eq_true (UInt8.lt_iff_toNat_lt.2 h)
    have h2 : (decide (b < a)) = false := decide_eq_false (fun q => by have := UInt8.lt_iff_toNat_lt.1 q; omega)
    have h3 : (b == a) = false := beq_false_of_ne (fun q => by subst q; omega)
    simp [h1, h2, h3]
   ·have h0 : a = b := UInt8.toNat_inj.1 h
    subst h0
    have h2 : (decide (a < a)) = false := decide_eq_false (fun q => by have := UInt8.lt_iff_toNat_lt.1 q; omega)
    simp only [h2, Bool.false_or, BEq.rfl, Bool.true_and]; exact ih
   ·have h1 : (decide (b < a)) = true := decide_eq_true (UInt8.lt_iff_toNat_lt.2 h)
    have h2 : (decide (a < b)) = false := decide_eq_false (fun q => by have := UInt8.lt_iff_toNat_lt.1 q; omega)
    have h3 : (a == b) = false := beq_false_of_ne (fun q => by subst q; omega)
    simp [h1, h2, h3]
mutual
def laws_FnOrderedCodes.j0 : Nat → List Int → List Int → List Int → Bool → Int → Bool → Bool → Option (Bool)
 | 0, _, _, _, _, _, _, _ => none
 | k + 1, x1, x5, x6, x7, x10, x11, x101 => if x101 = true then (some false) else (if x11 = true then ((impl_BestCost.f k x5 2).bind fun bt490 => (if bt490.2 = true then (laws_FnOrderedCodes.j1 k x1 x5 x6 x7 x10 bt490.1 (decide (x10 < bt490.1))) else (laws_FnOrderedCodes.j1 k x1 x5 x6 x7 x10 bt490.1 true))) else (laws_FnOrderedCodes.j5 k x1 x5 x6 x7 x10))
def laws_FnOrderedCodes.j5 : Nat → List Int → List Int → List Int → Bool → Int → Option (Bool)
 | 0, _, _, _, _, _ => none
 | k + 1, x1, x5, x6, x7, x10 => if x7 = true then ((impl_CostOf.f k x5 x6).bind fun bt496 => ((impl_CanBeOrdered.f k x6).bind fun bt498 => ((impl_OrderedWords.f k x6).bind fun bt500 => (if bt496.2 = true then (if bt496.1 = x10 then (if bt498.2 = true then (if bt498.1 = true then (if bt500.2 = true then ((laws_yPrefix.f k bt500.1).bind fun t504 => (if t504 = true then (laws_FnOrderedCodes.j6 k x1) else (some false))) else (some false)) else (some false)) else (some false)) else (some false)) else (some false))))) else (laws_FnOrderedCodes.j6 k x1)
def laws_FnOrderedCodes.j6 : Nat → List Int → Option (Bool)
 | 0, _ => none
 | k + 1, x1 => (spec_DrawOrderedWords.f k x1).bind fun t505 => ((impl_OrderedWords.f k t505).bind fun bt508 => ((spec_OrderedWords.f k t505).bind fun bt512 => ((impl_CanBeOrdered.f k t505).bind fun bt516 => ((spec_CanBeOrdered.f k t505).bind fun bt518 => (if (bt508.2 != bt512.2) = true then (laws_FnOrderedCodes.j7 k x1 t505 bt508.1 bt508.2 true) else ((laws_yTexts.f k bt508.1 bt512.1).bind fun t520 => (if t520 = true then (if (bt516.2 != bt518.2) = true then (laws_FnOrderedCodes.j7 k x1 t505 bt508.1 bt508.2 true) else (if (bt516.1 != bt518.1) = true then (laws_FnOrderedCodes.j7 k x1 t505 bt508.1 bt508.2 true) else (if bt516.2 = true then (laws_FnOrderedCodes.j7 k x1 t505 bt508.1 bt508.2 (bt508.2 != bt516.1)) else (laws_FnOrderedCodes.j7 k x1 t505 bt508.1 bt508.2 (bt508.2 != false))))) else (laws_FnOrderedCodes.j7 k x1 t505 bt508.1 bt508.2 true))))))))
def laws_FnOrderedCodes.j7 : Nat → List Int → List Int → List ByteArray → Bool → Bool → Option (Bool)
 | 0, _, _, _, _, _ => none
 | k + 1, x1, x28, x29, x30, x257 => if x257 = true then (some false) else (if x30 = true then ((laws_yPrefix.f k x29).bind fun t521 => (if t521 = true then (laws_FnOrderedCodes.j8 k x1 x28 x29 ((x29.length : Int) != (x28.length : Int))) else (laws_FnOrderedCodes.j8 k x1 x28 x29 true))) else (laws_FnOrderedCodes.j10 k x1))
def laws_FnOrderedCodes.j10 : Nat → List Int → Option (Bool)
 | 0, _ => none
 | k + 1, x1 => (spec_DrawOrderedCost.f k x1).bind fun t525 => ((impl_OrderedCost.f k t525).bind fun bt528 => ((spec_OrderedCost.f k t525).bind fun bt530 => ((spec_DrawSplitCost.f k x1).bind fun bt532 => ((impl_SplitCost.f k bt532.1 bt532.2).bind fun bt536 => ((spec_SplitCost.f k bt532.1 bt532.2).bind fun bt538 => (if (bt528.2 != bt530.2) = true then (laws_FnOrderedCodes.j11 k bt532.1 bt536.1 bt536.2 true) else (if bt528.1 = bt530.1 then (if (bt536.2 != bt538.2) = true then (laws_FnOrderedCodes.j11 k bt532.1 bt536.1 bt536.2 true) else (laws_FnOrderedCodes.j11 k bt532.1 bt536.1 bt536.2 (bt536.1 != bt538.1))) else (laws_FnOrderedCodes.j11 k bt532.1 bt536.1 bt536.2 true))))))))
def laws_FnOrderedCodes.j11 : Nat → List Int → Int → Bool → Bool → Option (Bool)
 | 0, _, _, _, _ => none
 | k + 1, x43, x45, x46, x343 => if x343 = true then (some false) else (if x46 = true then ((impl_OrderedCost.f k x43).bind fun bt540 => (if bt540.2 = true then (some (decide (x45 ≥ bt540.1))) else (some false))) else (some true))
def laws_FnOrderedCodes.j8 : Nat → List Int → List Int → List ByteArray → Bool → Option (Bool)
 | 0, _, _, _, _ => none
 | k + 1, x1, x28, x29, x268 => if x268 = true then (some false) else (laws_FnOrderedCodes.l2 k x1 x28 x29 x29 (x29.length : Int) 0)
def laws_FnOrderedCodes.l2 : Nat → List Int → List Int → List ByteArray → List ByteArray → Int → Int → Option (Bool)
 | 0, _, _, _, _, _, _ => none
 | k + 1, x1, x28, x29, x269, x270, x271 => if x271 < x270 then (if 0 ≤ x271 then (if x271 < (x269.length : Int) then (if x271 < (x28.length : Int) then (if ((rdOf ByteArray.empty x269 x271).size : Int) = (rd x28 x271) then (if x271 > 0 then (if 0 ≤ (wrap64 (x271 - 1)) then (if (wrap64 (x271 - 1)) < (x29.length : Int) then (if ((Op.bytesLess ((rdOf ByteArray.empty x29 (wrap64 (x271 - 1))).toList) ((rdOf ByteArray.empty x269 x271).toList)) = true) then (laws_FnOrderedCodes.l2 k x1 x28 x29 x269 x270 (wrap64 (x271 + 1))) else (some false)) else (none)) else (none)) else (laws_FnOrderedCodes.l2 k x1 x28 x29 x269 x270 (wrap64 (x271 + 1)))) else (some false)) else (none)) else (none)) else (none)) else (laws_FnOrderedCodes.j10 k x1)
def laws_FnOrderedCodes.j1 : Nat → List Int → List Int → List Int → Bool → Int → Int → Bool → Option (Bool)
 | 0, _, _, _, _, _, _, _ => none
 | k + 1, x1, x5, x6, x7, x10, x14, x114 => if x114 = true then (some false) else (if (x5.length : Int) > 1 then (laws_FnOrderedCodes.l0 k x1 x5 x6 x7 x10 x14 (-1) 1) else (laws_FnOrderedCodes.j3 k x1 x5 x6 x7 x10 x14))
def laws_FnOrderedCodes.j3 : Nat → List Int → List Int → List Int → Bool → Int → Int → Option (Bool)
 | 0, _, _, _, _, _, _ => none
 | k + 1, x1, x5, x6, x7, x10, x14 => laws_FnOrderedCodes.l1 k x1 x5 x6 x7 x10 x14 true 1
def laws_FnOrderedCodes.l1 : Nat → List Int → List Int → List Int → Bool → Int → Int → Bool → Int → Option (Bool)
 | 0, _, _, _, _, _, _, _, _ => none
 | k + 1, x1, x5, x6, x7, x10, x14, x20, x21 => if x21 < (x5.length : Int) then (if x20 = true then (if 0 ≤ (wrap64 (x21 - 1)) then (if (wrap64 (x21 - 1)) < (x5.length : Int) then (if 0 ≤ x21 then (laws_FnOrderedCodes.l1 k x1 x5 x6 x7 x10 x14 (decide ((rd x5 (wrap64 (x21 - 1))) ≤ (rd x5 x21))) (wrap64 (x21 + 1))) else (none)) else (none)) else (none)) else (laws_FnOrderedCodes.l1 k x1 x5 x6 x7 x10 x14 false (wrap64 (x21 + 1)))) else (if x20 = true then (if x10 = x14 then (laws_FnOrderedCodes.j5 k x1 x5 x6 x7 x10) else (some false)) else (laws_FnOrderedCodes.j5 k x1 x5 x6 x7 x10))
def laws_FnOrderedCodes.l0 : Nat → List Int → List Int → List Int → Bool → Int → Int → Int → Int → Option (Bool)
 | 0, _, _, _, _, _, _, _, _ => none
 | k + 1, x1, x5, x6, x7, x10, x14, x16, x17 => if x17 < (x5.length : Int) then ((impl_SplitCost.f k x5 x17).bind fun bt492 => (if bt492.2 = true then (if x16 < 0 then (laws_FnOrderedCodes.l0 k x1 x5 x6 x7 x10 x14 bt492.1 (wrap64 (x17 + 1))) else (if bt492.1 < x16 then (laws_FnOrderedCodes.l0 k x1 x5 x6 x7 x10 x14 bt492.1 (wrap64 (x17 + 1))) else (laws_FnOrderedCodes.l0 k x1 x5 x6 x7 x10 x14 x16 (wrap64 (x17 + 1))))) else (some false))) else (if x16 = x10 then (laws_FnOrderedCodes.j3 k x1 x5 x6 x7 x10 x14) else (some false))
end
def laws_FnOrderedCodes.f (k : Nat) (l0 : List Int) (l1 : List Int) : Option (Bool) := (laws_big.f l0 l1).bind fun t473 => (if t473 = true then (some true) else ((spec_DrawOrderedLengths.f k l0).bind fun t474 => ((impl_OrderedLengths.f k t474).bind fun bt477 => ((spec_OrderedLengths.f k t474).bind fun bt481 => ((impl_OrderedCost.f k t474).bind fun bt485 => ((spec_OrderedCost.f k t474).bind fun bt487 => (if (bt477.2 != bt481.2) = true then (laws_FnOrderedCodes.j0 k l1 t474 bt477.1 bt477.2 bt485.1 bt485.2 true) else ((laws_ySame.f k bt477.1 bt481.1).bind fun t489 => (if t489 = true then (if (bt485.2 != bt487.2) = true then (laws_FnOrderedCodes.j0 k l1 t474 bt477.1 bt477.2 bt485.1 bt485.2 true) else (if bt485.1 = bt487.1 then (if bt477.2 = true then (laws_FnOrderedCodes.j0 k l1 t474 bt477.1 bt477.2 bt485.1 bt485.2 (!bt485.2)) else (laws_FnOrderedCodes.j0 k l1 t474 bt477.1 bt477.2 bt485.1 bt485.2 false)) else (laws_FnOrderedCodes.j0 k l1 t474 bt477.1 bt477.2 bt485.1 bt485.2 true))) else (laws_FnOrderedCodes.j0 k l1 t474 bt477.1 bt477.2 bt485.1 bt485.2 true))))))))))
theorem laws_FnOrderedCodes.mono_l : ∀ k, (∀ y0 y1 y2 y3 y4 y5 y6, LeO (laws_FnOrderedCodes.j0 k y0 y1 y2 y3 y4 y5 y6) (laws_FnOrderedCodes.j0 (k + 1) y0 y1 y2 y3 y4 y5 y6)) ∧ (∀ y0 y1 y2 y3 y4, LeO (laws_FnOrderedCodes.j5 k y0 y1 y2 y3 y4) (laws_FnOrderedCodes.j5 (k + 1) y0 y1 y2 y3 y4)) ∧ (∀ y0, LeO (laws_FnOrderedCodes.j6 k y0) (laws_FnOrderedCodes.j6 (k + 1) y0)) ∧ (∀ y0 y1 y2 y3 y4, LeO (laws_FnOrderedCodes.j7 k y0 y1 y2 y3 y4) (laws_FnOrderedCodes.j7 (k + 1) y0 y1 y2 y3 y4)) ∧ (∀ y0, LeO (laws_FnOrderedCodes.j10 k y0) (laws_FnOrderedCodes.j10 (k + 1) y0)) ∧ (∀ y0 y1 y2 y3, LeO (laws_FnOrderedCodes.j11 k y0 y1 y2 y3) (laws_FnOrderedCodes.j11 (k + 1) y0 y1 y2 y3)) ∧ (∀ y0 y1 y2 y3, LeO (laws_FnOrderedCodes.j8 k y0 y1 y2 y3) (laws_FnOrderedCodes.j8 (k + 1) y0 y1 y2 y3)) ∧ (∀ y0 y1 y2 y3 y4 y5, LeO (laws_FnOrderedCodes.l2 k y0 y1 y2 y3 y4 y5) (laws_FnOrderedCodes.l2 (k + 1) y0 y1 y2 y3 y4 y5)) ∧ (∀ y0 y1 y2 y3 y4 y5 y6, LeO (laws_FnOrderedCodes.j1 k y0 y1 y2 y3 y4 y5 y6) (laws_FnOrderedCodes.j1 (k + 1) y0 y1 y2 y3 y4 y5 y6)) ∧ (∀ y0 y1 y2 y3 y4 y5, LeO (laws_FnOrderedCodes.j3 k y0 y1 y2 y3 y4 y5) (laws_FnOrderedCodes.j3 (k + 1) y0 y1 y2 y3 y4 y5)) ∧ (∀ y0 y1 y2 y3 y4 y5 y6 y7, LeO (laws_FnOrderedCodes.l1 k y0 y1 y2 y3 y4 y5 y6 y7) (laws_FnOrderedCodes.l1 (k + 1) y0 y1 y2 y3 y4 y5 y6 y7)) ∧ (∀ y0 y1 y2 y3 y4 y5 y6 y7, LeO (laws_FnOrderedCodes.l0 k y0 y1 y2 y3 y4 y5 y6 y7) (laws_FnOrderedCodes.l0 (k + 1) y0 y1 y2 y3 y4 y5 y6 y7))
 | 0 => ⟨fun _ _ _ _ _ _ _ r h => by simp [laws_FnOrderedCodes.j0] at h, fun _ _ _ _ _ r h => by simp [laws_FnOrderedCodes.j5] at h, fun _ r h => by simp [laws_FnOrderedCodes.j6] at h, fun _ _ _ _ _ r h => by simp [laws_FnOrderedCodes.j7] at h, fun _ r h => by simp [laws_FnOrderedCodes.j10] at h, fun _ _ _ _ r h => by simp [laws_FnOrderedCodes.j11] at h, fun _ _ _ _ r h => by simp [laws_FnOrderedCodes.j8] at h, fun _ _ _ _ _ _ r h => by simp [laws_FnOrderedCodes.l2] at h, fun _ _ _ _ _ _ _ r h => by simp [laws_FnOrderedCodes.j1] at h, fun _ _ _ _ _ _ r h => by simp [laws_FnOrderedCodes.j3] at h, fun _ _ _ _ _ _ _ _ r h => by simp [laws_FnOrderedCodes.l1] at h, fun _ _ _ _ _ _ _ _ r h => by simp [laws_FnOrderedCodes.l0] at h⟩
 | k + 1 => by
  obtain ⟨ih0, ih1, ih2, ih3, ih4, ih5, ih6, ih7, ih8, ih9, ih10, ih11⟩ := laws_FnOrderedCodes.mono_l k
  refine ⟨?_, ?_, ?_, ?_, ?_, ?_, ?_, ?_, ?_, ?_, ?_, ?_⟩
  ·intro y0 y1 y2 y3 y4 y5 y6
   unfold laws_FnOrderedCodes.j0
   repeat' first
   | (with_reducible first | exact ih0 _ _ _ _ _ _ _ | exact ih1 _ _ _ _ _ | exact ih2 _ | exact ih3 _ _ _ _ _ | exact ih4 _ | exact ih5 _ _ _ _ | exact ih6 _ _ _ _ | exact ih7 _ _ _ _ _ _ | exact ih8 _ _ _ _ _ _ _ | exact ih9 _ _ _ _ _ _ | exact ih10 _ _ _ _ _ _ _ _ | exact ih11 _ _ _ _ _ _ _ _ | exact impl_BestCost.mono _ _ _ | exact impl_CanBeOrdered.mono _ _ | exact impl_CostOf.mono _ _ _ | exact impl_OrderedCost.mono _ _ | exact impl_OrderedLengths.mono _ _ | exact impl_OrderedWords.mono _ _ | exact impl_SplitCost.mono _ _ _ | exact laws_yPrefix.mono _ _ | exact laws_ySame.mono _ _ _ | exact laws_yTexts.mono _ _ _ | exact spec_CanBeOrdered.mono _ _ | exact spec_DrawOrderedCost.mono _ _ | exact spec_DrawOrderedLengths.mono _ _ | exact spec_DrawOrderedWords.mono _ _ | exact spec_DrawSplitCost.mono _ _ | exact spec_OrderedCost.mono _ _ | exact spec_OrderedLengths.mono _ _ | exact spec_OrderedWords.mono _ _ | exact spec_SplitCost.mono _ _ _ | exact LeO.refl _ | exact LeO.none _ | refine LeO.ite ?_ ?_ | refine LeO.bind ?_ (fun _ => ?_))
   | exact ih0 _ _ _ _ _ _ _
   | exact ih1 _ _ _ _ _
   | exact ih2 _
   | exact ih3 _ _ _ _ _
   | exact ih4 _
   | exact ih5 _ _ _ _
   | exact ih6 _ _ _ _
   | exact ih7 _ _ _ _ _ _
   | exact ih8 _ _ _ _ _ _ _
   | exact ih9 _ _ _ _ _ _
   | exact ih10 _ _ _ _ _ _ _ _
   | exact ih11 _ _ _ _ _ _ _ _
   | exact impl_BestCost.mono _ _ _
   | exact impl_CanBeOrdered.mono _ _
   | exact impl_CostOf.mono _ _ _
   | exact impl_OrderedCost.mono _ _
   | exact impl_OrderedLengths.mono _ _
   | exact impl_OrderedWords.mono _ _
   | exact impl_SplitCost.mono _ _ _
   | exact laws_yPrefix.mono _ _
   | exact laws_ySame.mono _ _ _
   | exact laws_yTexts.mono _ _ _
   | exact spec_CanBeOrdered.mono _ _
   | exact spec_DrawOrderedCost.mono _ _
   | exact spec_DrawOrderedLengths.mono _ _
   | exact spec_DrawOrderedWords.mono _ _
   | exact spec_DrawSplitCost.mono _ _
   | exact spec_OrderedCost.mono _ _
   | exact spec_OrderedLengths.mono _ _
   | exact spec_OrderedWords.mono _ _
   | exact spec_SplitCost.mono _ _ _
   | exact LeO.none _
   | refine LeO.ite ?_ ?_
   | refine LeO.bind ?_ (fun _ => ?_)
  ·intro y0 y1 y2 y3 y4
   unfold laws_FnOrderedCodes.j5
   repeat' first
   | (with_reducible first | exact ih0 _ _ _ _ _ _ _ | exact ih1 _ _ _ _ _ | exact ih2 _ | exact ih3 _ _ _ _ _ | exact ih4 _ | exact ih5 _ _ _ _ | exact ih6 _ _ _ _ | exact ih7 _ _ _ _ _ _ | exact ih8 _ _ _ _ _ _ _ | exact ih9 _ _ _ _ _ _ | exact ih10 _ _ _ _ _ _ _ _ | exact ih11 _ _ _ _ _ _ _ _ | exact impl_BestCost.mono _ _ _ | exact impl_CanBeOrdered.mono _ _ | exact impl_CostOf.mono _ _ _ | exact impl_OrderedCost.mono _ _ | exact impl_OrderedLengths.mono _ _ | exact impl_OrderedWords.mono _ _ | exact impl_SplitCost.mono _ _ _ | exact laws_yPrefix.mono _ _ | exact laws_ySame.mono _ _ _ | exact laws_yTexts.mono _ _ _ | exact spec_CanBeOrdered.mono _ _ | exact spec_DrawOrderedCost.mono _ _ | exact spec_DrawOrderedLengths.mono _ _ | exact spec_DrawOrderedWords.mono _ _ | exact spec_DrawSplitCost.mono _ _ | exact spec_OrderedCost.mono _ _ | exact spec_OrderedLengths.mono _ _ | exact spec_OrderedWords.mono _ _ | exact spec_SplitCost.mono _ _ _ | exact LeO.refl _ | exact LeO.none _ | refine LeO.ite ?_ ?_ | refine LeO.bind ?_ (fun _ => ?_))
   | exact ih0 _ _ _ _ _ _ _
   | exact ih1 _ _ _ _ _
   | exact ih2 _
   | exact ih3 _ _ _ _ _
   | exact ih4 _
   | exact ih5 _ _ _ _
   | exact ih6 _ _ _ _
   | exact ih7 _ _ _ _ _ _
   | exact ih8 _ _ _ _ _ _ _
   | exact ih9 _ _ _ _ _ _
   | exact ih10 _ _ _ _ _ _ _ _
   | exact ih11 _ _ _ _ _ _ _ _
   | exact impl_BestCost.mono _ _ _
   | exact impl_CanBeOrdered.mono _ _
   | exact impl_CostOf.mono _ _ _
   | exact impl_OrderedCost.mono _ _
   | exact impl_OrderedLengths.mono _ _
   | exact impl_OrderedWords.mono _ _
   | exact impl_SplitCost.mono _ _ _
   | exact laws_yPrefix.mono _ _
   | exact laws_ySame.mono _ _ _
   | exact laws_yTexts.mono _ _ _
   | exact spec_CanBeOrdered.mono _ _
   | exact spec_DrawOrderedCost.mono _ _
   | exact spec_DrawOrderedLengths.mono _ _
   | exact spec_DrawOrderedWords.mono _ _
   | exact spec_DrawSplitCost.mono _ _
   | exact spec_OrderedCost.mono _ _
   | exact spec_OrderedLengths.mono _ _
   | exact spec_OrderedWords.mono _ _
   | exact spec_SplitCost.mono _ _ _
   | exact LeO.none _
   | refine LeO.ite ?_ ?_
   | refine LeO.bind ?_ (fun _ => ?_)
  ·intro y0
   unfold laws_FnOrderedCodes.j6
   repeat' first
   | (with_reducible first | exact ih0 _ _ _ _ _ _ _ | exact ih1 _ _ _ _ _ | exact ih2 _ | exact ih3 _ _ _ _ _ | exact ih4 _ | exact ih5 _ _ _ _ | exact ih6 _ _ _ _ | exact ih7 _ _ _ _ _ _ | exact ih8 _ _ _ _ _ _ _ | exact ih9 _ _ _ _ _ _ | exact ih10 _ _ _ _ _ _ _ _ | exact ih11 _ _ _ _ _ _ _ _ | exact impl_BestCost.mono _ _ _ | exact impl_CanBeOrdered.mono _ _ | exact impl_CostOf.mono _ _ _ | exact impl_OrderedCost.mono _ _ | exact impl_OrderedLengths.mono _ _ | exact impl_OrderedWords.mono _ _ | exact impl_SplitCost.mono _ _ _ | exact laws_yPrefix.mono _ _ | exact laws_ySame.mono _ _ _ | exact laws_yTexts.mono _ _ _ | exact spec_CanBeOrdered.mono _ _ | exact spec_DrawOrderedCost.mono _ _ | exact spec_DrawOrderedLengths.mono _ _ | exact spec_DrawOrderedWords.mono _ _ | exact spec_DrawSplitCost.mono _ _ | exact spec_OrderedCost.mono _ _ | exact spec_OrderedLengths.mono _ _ | exact spec_OrderedWords.mono _ _ | exact spec_SplitCost.mono _ _ _ | exact LeO.refl _ | exact LeO.none _ | refine LeO.ite ?_ ?_ | refine LeO.bind ?_ (fun _ => ?_))
   | exact ih0 _ _ _ _ _ _ _
   | exact ih1 _ _ _ _ _
   | exact ih2 _
   | exact ih3 _ _ _ _ _
   | exact ih4 _
   | exact ih5 _ _ _ _
   | exact ih6 _ _ _ _
   | exact ih7 _ _ _ _ _ _
   | exact ih8 _ _ _ _ _ _ _
   | exact ih9 _ _ _ _ _ _
   | exact ih10 _ _ _ _ _ _ _ _
   | exact ih11 _ _ _ _ _ _ _ _
   | exact impl_BestCost.mono _ _ _
   | exact impl_CanBeOrdered.mono _ _
   | exact impl_CostOf.mono _ _ _
   | exact impl_OrderedCost.mono _ _
   | exact impl_OrderedLengths.mono _ _
   | exact impl_OrderedWords.mono _ _
   | exact impl_SplitCost.mono _ _ _
   | exact laws_yPrefix.mono _ _
   | exact laws_ySame.mono _ _ _
   | exact laws_yTexts.mono _ _ _
   | exact spec_CanBeOrdered.mono _ _
   | exact spec_DrawOrderedCost.mono _ _
   | exact spec_DrawOrderedLengths.mono _ _
   | exact spec_DrawOrderedWords.mono _ _
   | exact spec_DrawSplitCost.mono _ _
   | exact spec_OrderedCost.mono _ _
   | exact spec_OrderedLengths.mono _ _
   | exact spec_OrderedWords.mono _ _
   | exact spec_SplitCost.mono _ _ _
   | exact LeO.none _
   | refine LeO.ite ?_ ?_
   | refine LeO.bind ?_ (fun _ => ?_)
  ·intro y0 y1 y2 y3 y4
   unfold laws_FnOrderedCodes.j7
   repeat' first
   | (with_reducible first | exact ih0 _ _ _ _ _ _ _ | exact ih1 _ _ _ _ _ | exact ih2 _ | exact ih3 _ _ _ _ _ | exact ih4 _ | exact ih5 _ _ _ _ | exact ih6 _ _ _ _ | exact ih7 _ _ _ _ _ _ | exact ih8 _ _ _ _ _ _ _ | exact ih9 _ _ _ _ _ _ | exact ih10 _ _ _ _ _ _ _ _ | exact ih11 _ _ _ _ _ _ _ _ | exact impl_BestCost.mono _ _ _ | exact impl_CanBeOrdered.mono _ _ | exact impl_CostOf.mono _ _ _ | exact impl_OrderedCost.mono _ _ | exact impl_OrderedLengths.mono _ _ | exact impl_OrderedWords.mono _ _ | exact impl_SplitCost.mono _ _ _ | exact laws_yPrefix.mono _ _ | exact laws_ySame.mono _ _ _ | exact laws_yTexts.mono _ _ _ | exact spec_CanBeOrdered.mono _ _ | exact spec_DrawOrderedCost.mono _ _ | exact spec_DrawOrderedLengths.mono _ _ | exact spec_DrawOrderedWords.mono _ _ | exact spec_DrawSplitCost.mono _ _ | exact spec_OrderedCost.mono _ _ | exact spec_OrderedLengths.mono _ _ | exact spec_OrderedWords.mono _ _ | exact spec_SplitCost.mono _ _ _ | exact LeO.refl _ | exact LeO.none _ | refine LeO.ite ?_ ?_ | refine LeO.bind ?_ (fun _ => ?_))
   | exact ih0 _ _ _ _ _ _ _
   | exact ih1 _ _ _ _ _
   | exact ih2 _
   | exact ih3 _ _ _ _ _
   | exact ih4 _
   | exact ih5 _ _ _ _
   | exact ih6 _ _ _ _
   | exact ih7 _ _ _ _ _ _
   | exact ih8 _ _ _ _ _ _ _
   | exact ih9 _ _ _ _ _ _
   | exact ih10 _ _ _ _ _ _ _ _
   | exact ih11 _ _ _ _ _ _ _ _
   | exact impl_BestCost.mono _ _ _
   | exact impl_CanBeOrdered.mono _ _
   | exact impl_CostOf.mono _ _ _
   | exact impl_OrderedCost.mono _ _
   | exact impl_OrderedLengths.mono _ _
   | exact impl_OrderedWords.mono _ _
   | exact impl_SplitCost.mono _ _ _
   | exact laws_yPrefix.mono _ _
   | exact laws_ySame.mono _ _ _
   | exact laws_yTexts.mono _ _ _
   | exact spec_CanBeOrdered.mono _ _
   | exact spec_DrawOrderedCost.mono _ _
   | exact spec_DrawOrderedLengths.mono _ _
   | exact spec_DrawOrderedWords.mono _ _
   | exact spec_DrawSplitCost.mono _ _
   | exact spec_OrderedCost.mono _ _
   | exact spec_OrderedLengths.mono _ _
   | exact spec_OrderedWords.mono _ _
   | exact spec_SplitCost.mono _ _ _
   | exact LeO.none _
   | refine LeO.ite ?_ ?_
   | refine LeO.bind ?_ (fun _ => ?_)
  ·intro y0
   unfold laws_FnOrderedCodes.j10
   repeat' first
   | (with_reducible first | exact ih0 _ _ _ _ _ _ _ | exact ih1 _ _ _ _ _ | exact ih2 _ | exact ih3 _ _ _ _ _ | exact ih4 _ | exact ih5 _ _ _ _ | exact ih6 _ _ _ _ | exact ih7 _ _ _ _ _ _ | exact ih8 _ _ _ _ _ _ _ | exact ih9 _ _ _ _ _ _ | exact ih10 _ _ _ _ _ _ _ _ | exact ih11 _ _ _ _ _ _ _ _ | exact impl_BestCost.mono _ _ _ | exact impl_CanBeOrdered.mono _ _ | exact impl_CostOf.mono _ _ _ | exact impl_OrderedCost.mono _ _ | exact impl_OrderedLengths.mono _ _ | exact impl_OrderedWords.mono _ _ | exact impl_SplitCost.mono _ _ _ | exact laws_yPrefix.mono _ _ | exact laws_ySame.mono _ _ _ | exact laws_yTexts.mono _ _ _ | exact spec_CanBeOrdered.mono _ _ | exact spec_DrawOrderedCost.mono _ _ | exact spec_DrawOrderedLengths.mono _ _ | exact spec_DrawOrderedWords.mono _ _ | exact spec_DrawSplitCost.mono _ _ | exact spec_OrderedCost.mono _ _ | exact spec_OrderedLengths.mono _ _ | exact spec_OrderedWords.mono _ _ | exact spec_SplitCost.mono _ _ _ | exact LeO.refl _ | exact LeO.none _ | refine LeO.ite ?_ ?_ | refine LeO.bind ?_ (fun _ => ?_))
   | exact ih0 _ _ _ _ _ _ _
   | exact ih1 _ _ _ _ _
   | exact ih2 _
   | exact ih3 _ _ _ _ _
   | exact ih4 _
   | exact ih5 _ _ _ _
   | exact ih6 _ _ _ _
   | exact ih7 _ _ _ _ _ _
   | exact ih8 _ _ _ _ _ _ _
   | exact ih9 _ _ _ _ _ _
   | exact ih10 _ _ _ _ _ _ _ _
   | exact ih11 _ _ _ _ _ _ _ _
   | exact impl_BestCost.mono _ _ _
   | exact impl_CanBeOrdered.mono _ _
   | exact impl_CostOf.mono _ _ _
   | exact impl_OrderedCost.mono _ _
   | exact impl_OrderedLengths.mono _ _
   | exact impl_OrderedWords.mono _ _
   | exact impl_SplitCost.mono _ _ _
   | exact laws_yPrefix.mono _ _
   | exact laws_ySame.mono _ _ _
   | exact laws_yTexts.mono _ _ _
   | exact spec_CanBeOrdered.mono _ _
   | exact spec_DrawOrderedCost.mono _ _
   | exact spec_DrawOrderedLengths.mono _ _
   | exact spec_DrawOrderedWords.mono _ _
   | exact spec_DrawSplitCost.mono _ _
   | exact spec_OrderedCost.mono _ _
   | exact spec_OrderedLengths.mono _ _
   | exact spec_OrderedWords.mono _ _
   | exact spec_SplitCost.mono _ _ _
   | exact LeO.none _
   | refine LeO.ite ?_ ?_
   | refine LeO.bind ?_ (fun _ => ?_)
  ·intro y0 y1 y2 y3
   unfold laws_FnOrderedCodes.j11
   repeat' first
   | (with_reducible first | exact ih0 _ _ _ _ _ _ _ | exact ih1 _ _ _ _ _ | exact ih2 _ | exact ih3 _ _ _ _ _ | exact ih4 _ | exact ih5 _ _ _ _ | exact ih6 _ _ _ _ | exact ih7 _ _ _ _ _ _ | exact ih8 _ _ _ _ _ _ _ | exact ih9 _ _ _ _ _ _ | exact ih10 _ _ _ _ _ _ _ _ | exact ih11 _ _ _ _ _ _ _ _ | exact impl_BestCost.mono _ _ _ | exact impl_CanBeOrdered.mono _ _ | exact impl_CostOf.mono _ _ _ | exact impl_OrderedCost.mono _ _ | exact impl_OrderedLengths.mono _ _ | exact impl_OrderedWords.mono _ _ | exact impl_SplitCost.mono _ _ _ | exact laws_yPrefix.mono _ _ | exact laws_ySame.mono _ _ _ | exact laws_yTexts.mono _ _ _ | exact spec_CanBeOrdered.mono _ _ | exact spec_DrawOrderedCost.mono _ _ | exact spec_DrawOrderedLengths.mono _ _ | exact spec_DrawOrderedWords.mono _ _ | exact spec_DrawSplitCost.mono _ _ | exact spec_OrderedCost.mono _ _ | exact spec_OrderedLengths.mono _ _ | exact spec_OrderedWords.mono _ _ | exact spec_SplitCost.mono _ _ _ | exact LeO.refl _ | exact LeO.none _ | refine LeO.ite ?_ ?_ | refine LeO.bind ?_ (fun _ => ?_))
   | exact ih0 _ _ _ _ _ _ _
   | exact ih1 _ _ _ _ _
   | exact ih2 _
   | exact ih3 _ _ _ _ _
   | exact ih4 _
   | exact ih5 _ _ _ _
   | exact ih6 _ _ _ _
   | exact ih7 _ _ _ _ _ _
   | exact ih8 _ _ _ _ _ _ _
   | exact ih9 _ _ _ _ _ _
   | exact ih10 _ _ _ _ _ _ _ _
   | exact ih11 _ _ _ _ _ _ _ _
   | exact impl_BestCost.mono _ _ _
   | exact impl_CanBeOrdered.mono _ _
   | exact impl_CostOf.mono _ _ _
   | exact impl_OrderedCost.mono _ _
   | exact impl_OrderedLengths.mono _ _
   | exact impl_OrderedWords.mono _ _
   | exact impl_SplitCost.mono _ _ _
   | exact laws_yPrefix.mono _ _
   | exact laws_ySame.mono _ _ _
   | exact laws_yTexts.mono _ _ _
   | exact spec_CanBeOrdered.mono _ _
   | exact spec_DrawOrderedCost.mono _ _
   | exact spec_DrawOrderedLengths.mono _ _
   | exact spec_DrawOrderedWords.mono _ _
   | exact spec_DrawSplitCost.mono _ _
   | exact spec_OrderedCost.mono _ _
   | exact spec_OrderedLengths.mono _ _
   | exact spec_OrderedWords.mono _ _
   | exact spec_SplitCost.mono _ _ _
   | exact LeO.none _
   | refine LeO.ite ?_ ?_
   | refine LeO.bind ?_ (fun _ => ?_)
  ·intro y0 y1 y2 y3
   unfold laws_FnOrderedCodes.j8
   repeat' first
   | (with_reducible first | exact ih0 _ _ _ _ _ _ _ | exact ih1 _ _ _ _ _ | exact ih2 _ | exact ih3 _ _ _ _ _ | exact ih4 _ | exact ih5 _ _ _ _ | exact ih6 _ _ _ _ | exact ih7 _ _ _ _ _ _ | exact ih8 _ _ _ _ _ _ _ | exact ih9 _ _ _ _ _ _ | exact ih10 _ _ _ _ _ _ _ _ | exact ih11 _ _ _ _ _ _ _ _ | exact impl_BestCost.mono _ _ _ | exact impl_CanBeOrdered.mono _ _ | exact impl_CostOf.mono _ _ _ | exact impl_OrderedCost.mono _ _ | exact impl_OrderedLengths.mono _ _ | exact impl_OrderedWords.mono _ _ | exact impl_SplitCost.mono _ _ _ | exact laws_yPrefix.mono _ _ | exact laws_ySame.mono _ _ _ | exact laws_yTexts.mono _ _ _ | exact spec_CanBeOrdered.mono _ _ | exact spec_DrawOrderedCost.mono _ _ | exact spec_DrawOrderedLengths.mono _ _ | exact spec_DrawOrderedWords.mono _ _ | exact spec_DrawSplitCost.mono _ _ | exact spec_OrderedCost.mono _ _ | exact spec_OrderedLengths.mono _ _ | exact spec_OrderedWords.mono _ _ | exact spec_SplitCost.mono _ _ _ | exact LeO.refl _ | exact LeO.none _ | refine LeO.ite ?_ ?_ | refine LeO.bind ?_ (fun _ => ?_))
   | exact ih0 _ _ _ _ _ _ _
   | exact ih1 _ _ _ _ _
   | exact ih2 _
   | exact ih3 _ _ _ _ _
   | exact ih4 _
   | exact ih5 _ _ _ _
   | exact ih6 _ _ _ _
   | exact ih7 _ _ _ _ _ _
   | exact ih8 _ _ _ _ _ _ _
   | exact ih9 _ _ _ _ _ _
   | exact ih10 _ _ _ _ _ _ _ _
   | exact ih11 _ _ _ _ _ _ _ _
   | exact impl_BestCost.mono _ _ _
   | exact impl_CanBeOrdered.mono _ _
   | exact impl_CostOf.mono _ _ _
   | exact impl_OrderedCost.mono _ _
   | exact impl_OrderedLengths.mono _ _
   | exact impl_OrderedWords.mono _ _
   | exact impl_SplitCost.mono _ _ _
   | exact laws_yPrefix.mono _ _
   | exact laws_ySame.mono _ _ _
   | exact laws_yTexts.mono _ _ _
   | exact spec_CanBeOrdered.mono _ _
   | exact spec_DrawOrderedCost.mono _ _
   | exact spec_DrawOrderedLengths.mono _ _
   | exact spec_DrawOrderedWords.mono _ _
   | exact spec_DrawSplitCost.mono _ _
   | exact spec_OrderedCost.mono _ _
   | exact spec_OrderedLengths.mono _ _
   | exact spec_OrderedWords.mono _ _
   | exact spec_SplitCost.mono _ _ _
   | exact LeO.none _
   | refine LeO.ite ?_ ?_
   | refine LeO.bind ?_ (fun _ => ?_)
  ·intro y0 y1 y2 y3 y4 y5
   unfold laws_FnOrderedCodes.l2
   repeat' first
   | (with_reducible first | exact ih0 _ _ _ _ _ _ _ | exact ih1 _ _ _ _ _ | exact ih2 _ | exact ih3 _ _ _ _ _ | exact ih4 _ | exact ih5 _ _ _ _ | exact ih6 _ _ _ _ | exact ih7 _ _ _ _ _ _ | exact ih8 _ _ _ _ _ _ _ | exact ih9 _ _ _ _ _ _ | exact ih10 _ _ _ _ _ _ _ _ | exact ih11 _ _ _ _ _ _ _ _ | exact impl_BestCost.mono _ _ _ | exact impl_CanBeOrdered.mono _ _ | exact impl_CostOf.mono _ _ _ | exact impl_OrderedCost.mono _ _ | exact impl_OrderedLengths.mono _ _ | exact impl_OrderedWords.mono _ _ | exact impl_SplitCost.mono _ _ _ | exact laws_yPrefix.mono _ _ | exact laws_ySame.mono _ _ _ | exact laws_yTexts.mono _ _ _ | exact spec_CanBeOrdered.mono _ _ | exact spec_DrawOrderedCost.mono _ _ | exact spec_DrawOrderedLengths.mono _ _ | exact spec_DrawOrderedWords.mono _ _ | exact spec_DrawSplitCost.mono _ _ | exact spec_OrderedCost.mono _ _ | exact spec_OrderedLengths.mono _ _ | exact spec_OrderedWords.mono _ _ | exact spec_SplitCost.mono _ _ _ | exact LeO.refl _ | exact LeO.none _ | refine LeO.ite ?_ ?_ | refine LeO.bind ?_ (fun _ => ?_))
   | exact ih0 _ _ _ _ _ _ _
   | exact ih1 _ _ _ _ _
   | exact ih2 _
   | exact ih3 _ _ _ _ _
   | exact ih4 _
   | exact ih5 _ _ _ _
   | exact ih6 _ _ _ _
   | exact ih7 _ _ _ _ _ _
   | exact ih8 _ _ _ _ _ _ _
   | exact ih9 _ _ _ _ _ _
   | exact ih10 _ _ _ _ _ _ _ _
   | exact ih11 _ _ _ _ _ _ _ _
   | exact impl_BestCost.mono _ _ _
   | exact impl_CanBeOrdered.mono _ _
   | exact impl_CostOf.mono _ _ _
   | exact impl_OrderedCost.mono _ _
   | exact impl_OrderedLengths.mono _ _
   | exact impl_OrderedWords.mono _ _
   | exact impl_SplitCost.mono _ _ _
   | exact laws_yPrefix.mono _ _
   | exact laws_ySame.mono _ _ _
   | exact laws_yTexts.mono _ _ _
   | exact spec_CanBeOrdered.mono _ _
   | exact spec_DrawOrderedCost.mono _ _
   | exact spec_DrawOrderedLengths.mono _ _
   | exact spec_DrawOrderedWords.mono _ _
   | exact spec_DrawSplitCost.mono _ _
   | exact spec_OrderedCost.mono _ _
   | exact spec_OrderedLengths.mono _ _
   | exact spec_OrderedWords.mono _ _
   | exact spec_SplitCost.mono _ _ _
   | exact LeO.none _
   | refine LeO.ite ?_ ?_
   | refine LeO.bind ?_ (fun _ => ?_)
  ·intro y0 y1 y2 y3 y4 y5 y6
   unfold laws_FnOrderedCodes.j1
   repeat' first
   | (with_reducible first | exact ih0 _ _ _ _ _ _ _ | exact ih1 _ _ _ _ _ | exact ih2 _ | exact ih3 _ _ _ _ _ | exact ih4 _ | exact ih5 _ _ _ _ | exact ih6 _ _ _ _ | exact ih7 _ _ _ _ _ _ | exact ih8 _ _ _ _ _ _ _ | exact ih9 _ _ _ _ _ _ | exact ih10 _ _ _ _ _ _ _ _ | exact ih11 _ _ _ _ _ _ _ _ | exact impl_BestCost.mono _ _ _ | exact impl_CanBeOrdered.mono _ _ | exact impl_CostOf.mono _ _ _ | exact impl_OrderedCost.mono _ _ | exact impl_OrderedLengths.mono _ _ | exact impl_OrderedWords.mono _ _ | exact impl_SplitCost.mono _ _ _ | exact laws_yPrefix.mono _ _ | exact laws_ySame.mono _ _ _ | exact laws_yTexts.mono _ _ _ | exact spec_CanBeOrdered.mono _ _ | exact spec_DrawOrderedCost.mono _ _ | exact spec_DrawOrderedLengths.mono _ _ | exact spec_DrawOrderedWords.mono _ _ | exact spec_DrawSplitCost.mono _ _ | exact spec_OrderedCost.mono _ _ | exact spec_OrderedLengths.mono _ _ | exact spec_OrderedWords.mono _ _ | exact spec_SplitCost.mono _ _ _ | exact LeO.refl _ | exact LeO.none _ | refine LeO.ite ?_ ?_ | refine LeO.bind ?_ (fun _ => ?_))
   | exact ih0 _ _ _ _ _ _ _
   | exact ih1 _ _ _ _ _
   | exact ih2 _
   | exact ih3 _ _ _ _ _
   | exact ih4 _
   | exact ih5 _ _ _ _
   | exact ih6 _ _ _ _
   | exact ih7 _ _ _ _ _ _
   | exact ih8 _ _ _ _ _ _ _
   | exact ih9 _ _ _ _ _ _
   | exact ih10 _ _ _ _ _ _ _ _
   | exact ih11 _ _ _ _ _ _ _ _
   | exact impl_BestCost.mono _ _ _
   | exact impl_CanBeOrdered.mono _ _
   | exact impl_CostOf.mono _ _ _
   | exact impl_OrderedCost.mono _ _
   | exact impl_OrderedLengths.mono _ _
   | exact impl_OrderedWords.mono _ _
   | exact impl_SplitCost.mono _ _ _
   | exact laws_yPrefix.mono _ _
   | exact laws_ySame.mono _ _ _
   | exact laws_yTexts.mono _ _ _
   | exact spec_CanBeOrdered.mono _ _
   | exact spec_DrawOrderedCost.mono _ _
   | exact spec_DrawOrderedLengths.mono _ _
   | exact spec_DrawOrderedWords.mono _ _
   | exact spec_DrawSplitCost.mono _ _
   | exact spec_OrderedCost.mono _ _
   | exact spec_OrderedLengths.mono _ _
   | exact spec_OrderedWords.mono _ _
   | exact spec_SplitCost.mono _ _ _
   | exact LeO.none _
   | refine LeO.ite ?_ ?_
   | refine LeO.bind ?_ (fun _ => ?_)
  ·intro y0 y1 y2 y3 y4 y5
   unfold laws_FnOrderedCodes.j3
   repeat' first
   | (with_reducible first | exact ih0 _ _ _ _ _ _ _ | exact ih1 _ _ _ _ _ | exact ih2 _ | exact ih3 _ _ _ _ _ | exact ih4 _ | exact ih5 _ _ _ _ | exact ih6 _ _ _ _ | exact ih7 _ _ _ _ _ _ | exact ih8 _ _ _ _ _ _ _ | exact ih9 _ _ _ _ _ _ | exact ih10 _ _ _ _ _ _ _ _ | exact ih11 _ _ _ _ _ _ _ _ | exact impl_BestCost.mono _ _ _ | exact impl_CanBeOrdered.mono _ _ | exact impl_CostOf.mono _ _ _ | exact impl_OrderedCost.mono _ _ | exact impl_OrderedLengths.mono _ _ | exact impl_OrderedWords.mono _ _ | exact impl_SplitCost.mono _ _ _ | exact laws_yPrefix.mono _ _ | exact laws_ySame.mono _ _ _ | exact laws_yTexts.mono _ _ _ | exact spec_CanBeOrdered.mono _ _ | exact spec_DrawOrderedCost.mono _ _ | exact spec_DrawOrderedLengths.mono _ _ | exact spec_DrawOrderedWords.mono _ _ | exact spec_DrawSplitCost.mono _ _ | exact spec_OrderedCost.mono _ _ | exact spec_OrderedLengths.mono _ _ | exact spec_OrderedWords.mono _ _ | exact spec_SplitCost.mono _ _ _ | exact LeO.refl _ | exact LeO.none _ | refine LeO.ite ?_ ?_ | refine LeO.bind ?_ (fun _ => ?_))
   | exact ih0 _ _ _ _ _ _ _
   | exact ih1 _ _ _ _ _
   | exact ih2 _
   | exact ih3 _ _ _ _ _
   | exact ih4 _
   | exact ih5 _ _ _ _
   | exact ih6 _ _ _ _
   | exact ih7 _ _ _ _ _ _
   | exact ih8 _ _ _ _ _ _ _
   | exact ih9 _ _ _ _ _ _
   | exact ih10 _ _ _ _ _ _ _ _
   | exact ih11 _ _ _ _ _ _ _ _
   | exact impl_BestCost.mono _ _ _
   | exact impl_CanBeOrdered.mono _ _
   | exact impl_CostOf.mono _ _ _
   | exact impl_OrderedCost.mono _ _
   | exact impl_OrderedLengths.mono _ _
   | exact impl_OrderedWords.mono _ _
   | exact impl_SplitCost.mono _ _ _
   | exact laws_yPrefix.mono _ _
   | exact laws_ySame.mono _ _ _
   | exact laws_yTexts.mono _ _ _
   | exact spec_CanBeOrdered.mono _ _
   | exact spec_DrawOrderedCost.mono _ _
   | exact spec_DrawOrderedLengths.mono _ _
   | exact spec_DrawOrderedWords.mono _ _
   | exact spec_DrawSplitCost.mono _ _
   | exact spec_OrderedCost.mono _ _
   | exact spec_OrderedLengths.mono _ _
   | exact spec_OrderedWords.mono _ _
   | exact spec_SplitCost.mono _ _ _
   | exact LeO.none _
   | refine LeO.ite ?_ ?_
   | refine LeO.bind ?_ (fun _ => ?_)
  ·intro y0 y1 y2 y3 y4 y5 y6 y7
   unfold laws_FnOrderedCodes.l1
   repeat' first
   | (with_reducible first | exact ih0 _ _ _ _ _ _ _ | exact ih1 _ _ _ _ _ | exact ih2 _ | exact ih3 _ _ _ _ _ | exact ih4 _ | exact ih5 _ _ _ _ | exact ih6 _ _ _ _ | exact ih7 _ _ _ _ _ _ | exact ih8 _ _ _ _ _ _ _ | exact ih9 _ _ _ _ _ _ | exact ih10 _ _ _ _ _ _ _ _ | exact ih11 _ _ _ _ _ _ _ _ | exact impl_BestCost.mono _ _ _ | exact impl_CanBeOrdered.mono _ _ | exact impl_CostOf.mono _ _ _ | exact impl_OrderedCost.mono _ _ | exact impl_OrderedLengths.mono _ _ | exact impl_OrderedWords.mono _ _ | exact impl_SplitCost.mono _ _ _ | exact laws_yPrefix.mono _ _ | exact laws_ySame.mono _ _ _ | exact laws_yTexts.mono _ _ _ | exact spec_CanBeOrdered.mono _ _ | exact spec_DrawOrderedCost.mono _ _ | exact spec_DrawOrderedLengths.mono _ _ | exact spec_DrawOrderedWords.mono _ _ | exact spec_DrawSplitCost.mono _ _ | exact spec_OrderedCost.mono _ _ | exact spec_OrderedLengths.mono _ _ | exact spec_OrderedWords.mono _ _ | exact spec_SplitCost.mono _ _ _ | exact LeO.refl _ | exact LeO.none _ | refine LeO.ite ?_ ?_ | refine LeO.bind ?_ (fun _ => ?_))
   | exact ih0 _ _ _ _ _ _ _
   | exact ih1 _ _ _ _ _
   | exact ih2 _
   | exact ih3 _ _ _ _ _
   | exact ih4 _
   | exact ih5 _ _ _ _
   | exact ih6 _ _ _ _
   | exact ih7 _ _ _ _ _ _
   | exact ih8 _ _ _ _ _ _ _
   | exact ih9 _ _ _ _ _ _
   | exact ih10 _ _ _ _ _ _ _ _
   | exact ih11 _ _ _ _ _ _ _ _
   | exact impl_BestCost.mono _ _ _
   | exact impl_CanBeOrdered.mono _ _
   | exact impl_CostOf.mono _ _ _
   | exact impl_OrderedCost.mono _ _
   | exact impl_OrderedLengths.mono _ _
   | exact impl_OrderedWords.mono _ _
   | exact impl_SplitCost.mono _ _ _
   | exact laws_yPrefix.mono _ _
   | exact laws_ySame.mono _ _ _
   | exact laws_yTexts.mono _ _ _
   | exact spec_CanBeOrdered.mono _ _
   | exact spec_DrawOrderedCost.mono _ _
   | exact spec_DrawOrderedLengths.mono _ _
   | exact spec_DrawOrderedWords.mono _ _
   | exact spec_DrawSplitCost.mono _ _
   | exact spec_OrderedCost.mono _ _
   | exact spec_OrderedLengths.mono _ _
   | exact spec_OrderedWords.mono _ _
   | exact spec_SplitCost.mono _ _ _
   | exact LeO.none _
   | refine LeO.ite ?_ ?_
   | refine LeO.bind ?_ (fun _ => ?_)
  ·intro y0 y1 y2 y3 y4 y5 y6 y7
   unfold laws_FnOrderedCodes.l0
   repeat' first
   | (with_reducible first | exact ih0 _ _ _ _ _ _ _ | exact ih1 _ _ _ _ _ | exact ih2 _ | exact ih3 _ _ _ _ _ | exact ih4 _ | exact ih5 _ _ _ _ | exact ih6 _ _ _ _ | exact ih7 _ _ _ _ _ _ | exact ih8 _ _ _ _ _ _ _ | exact ih9 _ _ _ _ _ _ | exact ih10 _ _ _ _ _ _ _ _ | exact ih11 _ _ _ _ _ _ _ _ | exact impl_BestCost.mono _ _ _ | exact impl_CanBeOrdered.mono _ _ | exact impl_CostOf.mono _ _ _ | exact impl_OrderedCost.mono _ _ | exact impl_OrderedLengths.mono _ _ | exact impl_OrderedWords.mono _ _ | exact impl_SplitCost.mono _ _ _ | exact laws_yPrefix.mono _ _ | exact laws_ySame.mono _ _ _ | exact laws_yTexts.mono _ _ _ | exact spec_CanBeOrdered.mono _ _ | exact spec_DrawOrderedCost.mono _ _ | exact spec_DrawOrderedLengths.mono _ _ | exact spec_DrawOrderedWords.mono _ _ | exact spec_DrawSplitCost.mono _ _ | exact spec_OrderedCost.mono _ _ | exact spec_OrderedLengths.mono _ _ | exact spec_OrderedWords.mono _ _ | exact spec_SplitCost.mono _ _ _ | exact LeO.refl _ | exact LeO.none _ | refine LeO.ite ?_ ?_ | refine LeO.bind ?_ (fun _ => ?_))
   | exact ih0 _ _ _ _ _ _ _
   | exact ih1 _ _ _ _ _
   | exact ih2 _
   | exact ih3 _ _ _ _ _
   | exact ih4 _
   | exact ih5 _ _ _ _
   | exact ih6 _ _ _ _
   | exact ih7 _ _ _ _ _ _
   | exact ih8 _ _ _ _ _ _ _
   | exact ih9 _ _ _ _ _ _
   | exact ih10 _ _ _ _ _ _ _ _
   | exact ih11 _ _ _ _ _ _ _ _
   | exact impl_BestCost.mono _ _ _
   | exact impl_CanBeOrdered.mono _ _
   | exact impl_CostOf.mono _ _ _
   | exact impl_OrderedCost.mono _ _
   | exact impl_OrderedLengths.mono _ _
   | exact impl_OrderedWords.mono _ _
   | exact impl_SplitCost.mono _ _ _
   | exact laws_yPrefix.mono _ _
   | exact laws_ySame.mono _ _ _
   | exact laws_yTexts.mono _ _ _
   | exact spec_CanBeOrdered.mono _ _
   | exact spec_DrawOrderedCost.mono _ _
   | exact spec_DrawOrderedLengths.mono _ _
   | exact spec_DrawOrderedWords.mono _ _
   | exact spec_DrawSplitCost.mono _ _
   | exact spec_OrderedCost.mono _ _
   | exact spec_OrderedLengths.mono _ _
   | exact spec_OrderedWords.mono _ _
   | exact spec_SplitCost.mono _ _ _
   | exact LeO.none _
   | refine LeO.ite ?_ ?_
   | refine LeO.bind ?_ (fun _ => ?_)
theorem laws_FnOrderedCodes.mono : ∀ a0 a1 k, LeO (laws_FnOrderedCodes.f k a0 a1) (laws_FnOrderedCodes.f (k + 1) a0 a1) := by
 intro a0 a1 k
 obtain ⟨ih0, ih1, ih2, ih3, ih4, ih5, ih6, ih7, ih8, ih9, ih10, ih11⟩ := laws_FnOrderedCodes.mono_l k
 unfold laws_FnOrderedCodes.f
 repeat' first
   | (with_reducible first | exact ih0 _ _ _ _ _ _ _ | exact ih1 _ _ _ _ _ | exact ih2 _ | exact ih3 _ _ _ _ _ | exact ih4 _ | exact ih5 _ _ _ _ | exact ih6 _ _ _ _ | exact ih7 _ _ _ _ _ _ | exact ih8 _ _ _ _ _ _ _ | exact ih9 _ _ _ _ _ _ | exact ih10 _ _ _ _ _ _ _ _ | exact ih11 _ _ _ _ _ _ _ _ | exact impl_BestCost.mono _ _ _ | exact impl_CanBeOrdered.mono _ _ | exact impl_CostOf.mono _ _ _ | exact impl_OrderedCost.mono _ _ | exact impl_OrderedLengths.mono _ _ | exact impl_OrderedWords.mono _ _ | exact impl_SplitCost.mono _ _ _ | exact laws_yPrefix.mono _ _ | exact laws_ySame.mono _ _ _ | exact laws_yTexts.mono _ _ _ | exact spec_CanBeOrdered.mono _ _ | exact spec_DrawOrderedCost.mono _ _ | exact spec_DrawOrderedLengths.mono _ _ | exact spec_DrawOrderedWords.mono _ _ | exact spec_DrawSplitCost.mono _ _ | exact spec_OrderedCost.mono _ _ | exact spec_OrderedLengths.mono _ _ | exact spec_OrderedWords.mono _ _ | exact spec_SplitCost.mono _ _ _ | exact LeO.refl _ | exact LeO.none _ | refine LeO.ite ?_ ?_ | refine LeO.bind ?_ (fun _ => ?_))
   | exact ih0 _ _ _ _ _ _ _
   | exact ih1 _ _ _ _ _
   | exact ih2 _
   | exact ih3 _ _ _ _ _
   | exact ih4 _
   | exact ih5 _ _ _ _
   | exact ih6 _ _ _ _
   | exact ih7 _ _ _ _ _ _
   | exact ih8 _ _ _ _ _ _ _
   | exact ih9 _ _ _ _ _ _
   | exact ih10 _ _ _ _ _ _ _ _
   | exact ih11 _ _ _ _ _ _ _ _
   | exact impl_BestCost.mono _ _ _
   | exact impl_CanBeOrdered.mono _ _
   | exact impl_CostOf.mono _ _ _
   | exact impl_OrderedCost.mono _ _
   | exact impl_OrderedLengths.mono _ _
   | exact impl_OrderedWords.mono _ _
   | exact impl_SplitCost.mono _ _ _
   | exact laws_yPrefix.mono _ _
   | exact laws_ySame.mono _ _ _
   | exact laws_yTexts.mono _ _ _
   | exact spec_CanBeOrdered.mono _ _
   | exact spec_DrawOrderedCost.mono _ _
   | exact spec_DrawOrderedLengths.mono _ _
   | exact spec_DrawOrderedWords.mono _ _
   | exact spec_DrawSplitCost.mono _ _
   | exact spec_OrderedCost.mono _ _
   | exact spec_OrderedLengths.mono _ _
   | exact spec_OrderedWords.mono _ _
   | exact spec_SplitCost.mono _ _ _
   | exact LeO.none _
   | refine LeO.ite ?_ ?_
   | refine LeO.bind ?_ (fun _ => ?_)
theorem wp_cutK {P : Program} {s y : Code} {K : Act → World → Prop} {Q' Q2 : Exit → Act → World → Prop} {a : Act} {w : World} (hK : ∀ a w, y.wp P Q2 a w → K a w) (first : ∀ K' : Act → World → Prop, Aside0 (∀ a w, y.wp P Q2 a w → K' a w) → s.wp P (Exit.then K' Q') a w) : s.wp P (Exit.then K Q') a w := first K ⟨hK⟩
def cA : Code → Code
 | .seq a _ => a
 | c => c
def cB : Code → Code
 | .seq _ b => b
 | c => c
def cT : Code → Code
 | .cond _ a _ => a
 | c => c
theorem cond_of {P : Program} {c x y : Code} {o : Operand} {Q : Exit → Act → World → Prop} {K : Act → World → Prop} (h : c = .cond o x y) (h1 : ∀ a w, c.wp P Q a w → K a w) : ∀ a w, (Code.cond o x y).wp P Q a w → K a w := h ▸ h1
theorem seq_of {P : Program} {c x y : Code} {Q : Exit → Act → World → Prop} {K : Act → World → Prop} (h : c = .seq x y) (h1 : ∀ a w, c.wp P Q a w → K a w) : ∀ a w, (Code.seq x y).wp P Q a w → K a w := h ▸ h1
end Go.Proofs.Ytcdmmpbcjcajlaa.XFnOrderedCodes
