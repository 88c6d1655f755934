-- Written by a program of this session (wip/xprint.py), which follows the kit's print; no kit file.
import Derived.Test.YtahemjedodecgaaDoorXFnWordsComparedx0
import Derived.Test.YtahemjedodecgaaDoorXFnWordsComparedx1
import Derived.Test.YtahemjedodecgaaDoorXFnWordsComparedx2
import Derived.Test.YtahemjedodecgaaDoorXFnWordsComparedx3
import Derived.Test.YtahemjedodecgaaDoorXFnWordsComparedx4
import Derived.Test.YtahemjedodecgaaDoorXFnWordsComparedx5
namespace Go.Proofs.YtahemjedodecgaaDoor.XFnWordsCompared
open Go.RowKit Go.Proofs.YtahemjedodecgaaDoor.Hand Go.Proofs.YtahemjedodecgaaDoorW.PrintWords Go.Proofs.YtahemjedodecgaaDoorW.PrintLast Go.Proofs.YtahemjedodecgaaDoorW.PrintMore
attribute [local go_sem] max2_int min2_int max_two min_two max_three min_three max_four min_four   -- for this text's walks alone
set_option linter.unusedVariables false
set_option linter.unusedSimpArgs false

/-! ### laws_FnWordsCompared: function 3 -/
mutual
def laws_FnWordsCompared.j0 : Nat → List Int → ByteArray → ByteArray → Bool → Bool → Bool → Int → Bool → Bool → Bool → Option (Bool)
  | 0, _, _, _, _, _, _, _, _, _, _ => none
  | k + 1, x1, x5, x6, x7, x8, x11, x15, x16, x19, x166 => if x166 = true then none else (if x8 = true then ((impl_LessWord.f k x6 x5).bind fun bt297 => (if bt297.2 = true then ((laws_yBegins.f x5 x6).bind fun t299 => (if x7 = t299 ∧ x16 = (x6.toList != ([] : List UInt8)) ∧ (x19 && bt297.1) = false ∧ (x19 = false → bt297.1 = false → x5.toList = x6.toList) ∧ (x16 = true → (x7 || x11) = true → ¬ x15 = 0) ∧ (x16 = false → x19 = false) ∧ (x16 = true → x19 = true → x7 = false ∧ x11 = false) ∧ (x16 = true → x19 = false → bt297.1 = false → x7 = true) then (laws_FnWordsCompared.j1 k x1) else none)) else none)) else (laws_FnWordsCompared.j1 k x1))
def laws_FnWordsCompared.j1 : Nat → List Int → Option (Bool)
  | 0, _ => none
  | k + 1, x1 => (spec_DrawBordersOf.f k x1).bind fun t302 => ((impl_BordersOf.f k t302).bind fun bt303 => ((spec_BordersOf.f k t302).bind fun bt307 => ((impl_LettersOf.f k t302).bind fun bt311 => ((spec_LettersOf.f k t302).bind fun bt315 => ((laws_ySame.f k bt303.1 bt307.1).bind fun t319 => ((laws_ySame.f k bt311.1 bt315.1).bind fun t320 => (if bt303.2 = bt307.2 ∧ bt303.2 = bt311.2 ∧ bt303.2 = bt315.2 ∧ t319 = true ∧ t320 = true then (laws_FnWordsCompared.j2 k x1 t302 bt303.1 bt303.2 bt311.1 false) else none)))))))
def laws_FnWordsCompared.j2 : Nat → List Int → ByteArray → List Int → Bool → List Int → Bool → Option (Bool)
  | 0, _, _, _, _, _, _ => none
  | k + 1, x1, x25, x26, x27, x30, x267 => if x267 = true then (some false) else (if x27 = true then (laws_FnWordsCompared.l0 k x1 x25 x26 x30 0 1) else (laws_FnWordsCompared.j4 k x1))
def laws_FnWordsCompared.j4 : Nat → List Int → Option (Bool)
  | 0, _ => none
  | k + 1, x1 => (spec_DrawConcat.f k x1).bind fun t325 => ((impl_Concat.f k t325).bind fun bt328 => ((spec_Concat.f k t325).bind fun bt330 => (if bt328.2 = bt330.2 ∧ bt328.1 = bt330.1 then (laws_FnWordsCompared.j5 k t325 bt328.1 bt328.2 false) else none)))
def laws_FnWordsCompared.j5 : Nat → List ByteArray → ByteArray → Bool → Bool → Option (Bool)
  | 0, _, _, _, _ => none
  | k + 1, x38, x39, x40, x330 => if x330 = true then (some false) else (if x40 = true then (laws_FnWordsCompared.l1 k x39 0 x38 (x38.length : Int) 0) else (some true))
def laws_FnWordsCompared.l1 : Nat → ByteArray → Int → List ByteArray → Int → Int → Option (Bool)
  | 0, _, _, _, _, _ => none
  | k + 1, x39, x43, x332, x333, x334 => if x334 < x333 then (if 0 ≤ x334 then (if x334 < (x332.length : Int) then (laws_FnWordsCompared.l1 k x39 (wrap64 (x43 + ((rdOf ByteArray.empty x332 x334).size : Int))) x332 x333 (wrap64 (x334 + 1))) else (none)) else (none)) else (some (x43 == (x39.size : Int)))
def laws_FnWordsCompared.l0 : Nat → List Int → ByteArray → List Int → List Int → Int → Int → Option (Bool)
  | 0, _, _, _, _, _, _ => none
  | k + 1, x1, x25, x26, x30, x34, x35 => if x35 < (x25.size : Int) then (if 0 ≤ x35 then (if x35 ≤ (x25.size : Int) then ((impl_Ends.f x25 (x25.extract 0 (x35 : Int).toNat)).bind fun bt322 => (if bt322.2 = true then (if bt322.1 = true then (if x34 ≥ (x26.length : Int) then (some false) else (if 0 ≤ x34 then (if x34 < (x26.length : Int) then (if (rd x26 x34) = x35 then (laws_FnWordsCompared.l0 k x1 x25 x26 x30 (wrap64 (x34 + 1)) (wrap64 (x35 + 1))) else (some false)) else (none)) else (none))) else (laws_FnWordsCompared.l0 k x1 x25 x26 x30 x34 (wrap64 (x35 + 1)))) else (some false))) else (none)) else (none)) else (if x34 = (x26.length : Int) then ((laws_ySum.f k x30).bind fun t321 => (if t321 = (x25.size : Int) then (laws_FnWordsCompared.j4 k x1) else (some false))) else (some false))
end
def laws_FnWordsCompared.f (k : Nat) (l0 : List Int) (l1 : List Int) : Option (Bool) := (laws_big.f l0 l1).bind fun t272 => (if t272 = true then (some true) else ((spec_DrawBegins.f k l0).bind fun bt273 => ((impl_Begins.f bt273.1 bt273.2).bind fun bt275 => ((spec_Begins.f k bt273.1 bt273.2).bind fun bt277 => ((impl_Ends.f bt273.1 bt273.2).bind fun bt279 => ((spec_Ends.f k bt273.1 bt273.2).bind fun bt281 => ((impl_CountIn.f k bt273.1 bt273.2).bind fun bt283 => ((spec_CountIn.f k bt273.1 bt273.2).bind fun bt285 => ((impl_LessWord.f k bt273.1 bt273.2).bind fun bt287 => ((spec_LessWord.f k bt273.1 bt273.2).bind fun bt289 => ((impl_IsWord.f bt273.1).bind fun g1 => ((impl_IsWord.f bt273.2).bind fun g2 => ((spec_IsWord.f k bt273.1).bind fun g3 => (if bt275.1 = bt277.1 ∧ bt275.2 = bt277.2 ∧ bt279.1 = bt281.1 ∧ bt275.2 = bt281.2 ∧ bt283.1 = bt285.1 ∧ bt283.2 = bt285.2 ∧ bt287.1 = bt289.1 ∧ bt275.2 = bt289.2 ∧ bt275.2 = bt279.2 ∧ bt275.2 = bt287.2 ∧ bt275.2 = (g1 && g2) ∧ g1 = g3 then (laws_FnWordsCompared.j0 k l1 bt273.1 bt273.2 bt275.1 bt275.2 bt279.1 bt283.1 bt283.2 bt287.1 false) else none))))))))))))))
theorem laws_FnWordsCompared.mono_l : ∀ k, (∀ y0 y1 y2 y3 y4 y5 y6 y7 y8 y9, LeO (laws_FnWordsCompared.j0 k y0 y1 y2 y3 y4 y5 y6 y7 y8 y9) (laws_FnWordsCompared.j0 (k + 1) y0 y1 y2 y3 y4 y5 y6 y7 y8 y9)) ∧ (∀ y0, LeO (laws_FnWordsCompared.j1 k y0) (laws_FnWordsCompared.j1 (k + 1) y0)) ∧ (∀ y0 y1 y2 y3 y4 y5, LeO (laws_FnWordsCompared.j2 k y0 y1 y2 y3 y4 y5) (laws_FnWordsCompared.j2 (k + 1) y0 y1 y2 y3 y4 y5)) ∧ (∀ y0, LeO (laws_FnWordsCompared.j4 k y0) (laws_FnWordsCompared.j4 (k + 1) y0)) ∧ (∀ y0 y1 y2 y3, LeO (laws_FnWordsCompared.j5 k y0 y1 y2 y3) (laws_FnWordsCompared.j5 (k + 1) y0 y1 y2 y3)) ∧ (∀ y0 y1 y2 y3 y4, LeO (laws_FnWordsCompared.l1 k y0 y1 y2 y3 y4) (laws_FnWordsCompared.l1 (k + 1) y0 y1 y2 y3 y4)) ∧ (∀ y0 y1 y2 y3 y4 y5, LeO (laws_FnWordsCompared.l0 k y0 y1 y2 y3 y4 y5) (laws_FnWordsCompared.l0 (k + 1) y0 y1 y2 y3 y4 y5))
  | 0 => ⟨fun _ _ _ _ _ _ _ _ _ _ r h => by simp [laws_FnWordsCompared.j0] at h, fun _ r h => by simp [laws_FnWordsCompared.j1] at h, fun _ _ _ _ _ _ r h => by simp [laws_FnWordsCompared.j2] at h, fun _ r h => by simp [laws_FnWordsCompared.j4] at h, fun _ _ _ _ r h => by simp [laws_FnWordsCompared.j5] at h, fun _ _ _ _ _ r h => by simp [laws_FnWordsCompared.l1] at h, fun _ _ _ _ _ _ r h => by simp [laws_FnWordsCompared.l0] at h⟩
  | k + 1 => by
    obtain ⟨ih0, ih1, ih2, ih3, ih4, ih5, ih6⟩ := laws_FnWordsCompared.mono_l k
    refine ⟨?_, ?_, ?_, ?_, ?_, ?_, ?_⟩
    · intro y0 y1 y2 y3 y4 y5 y6 y7 y8 y9
      unfold laws_FnWordsCompared.j0
      repeat' first
      | (with_reducible exact ih0 _ _ _ _ _ _ _ _ _ _)
      | (with_reducible exact ih1 _)
      | (with_reducible exact ih2 _ _ _ _ _ _)
      | (with_reducible exact ih3 _)
      | (with_reducible exact ih4 _ _ _ _)
      | (with_reducible exact ih5 _ _ _ _ _)
      | (with_reducible exact ih6 _ _ _ _ _ _)
      | (with_reducible exact impl_BordersOf.mono _ _)
      | (with_reducible exact impl_Concat.mono _ _)
      | (with_reducible exact impl_CountIn.mono _ _ _)
      | (with_reducible exact impl_LessWord.mono _ _ _)
      | (with_reducible exact impl_LettersOf.mono _ _)
      | (with_reducible exact laws_ySame.mono _ _ _)
      | (with_reducible exact laws_ySum.mono _ _)
      | (with_reducible exact spec_Begins.mono _ _ _)
      | (with_reducible exact spec_BordersOf.mono _ _)
      | (with_reducible exact spec_Concat.mono _ _)
      | (with_reducible exact spec_CountIn.mono _ _ _)
      | (with_reducible exact spec_DrawBegins.mono _ _)
      | (with_reducible exact spec_DrawBordersOf.mono _ _)
      | (with_reducible exact spec_DrawConcat.mono _ _)
      | (with_reducible exact spec_Ends.mono _ _ _)
      | (with_reducible exact spec_IsWord.mono _ _)
      | (with_reducible exact spec_LessWord.mono _ _ _)
      | (with_reducible exact spec_LettersOf.mono _ _)
      | (with_reducible exact LeO.refl _)
      | (with_reducible exact LeO.none _)
      | (with_reducible refine LeO.ite ?_ ?_)
      | (with_reducible refine LeO.bind ?_ (fun _ => ?_))
      | exact ih0 _ _ _ _ _ _ _ _ _ _
      | exact ih1 _
      | exact ih2 _ _ _ _ _ _
      | exact ih3 _
      | exact ih4 _ _ _ _
      | exact ih5 _ _ _ _ _
      | exact ih6 _ _ _ _ _ _
      | exact impl_BordersOf.mono _ _
      | exact impl_Concat.mono _ _
      | exact impl_CountIn.mono _ _ _
      | exact impl_LessWord.mono _ _ _
      | exact impl_LettersOf.mono _ _
      | exact laws_ySame.mono _ _ _
      | exact laws_ySum.mono _ _
      | exact spec_Begins.mono _ _ _
      | exact spec_BordersOf.mono _ _
      | exact spec_Concat.mono _ _
      | exact spec_CountIn.mono _ _ _
      | exact spec_DrawBegins.mono _ _
      | exact spec_DrawBordersOf.mono _ _
      | exact spec_DrawConcat.mono _ _
      | exact spec_Ends.mono _ _ _
      | exact spec_IsWord.mono _ _
      | exact spec_LessWord.mono _ _ _
      | exact spec_LettersOf.mono _ _
      | exact LeO.none _
      | refine LeO.ite ?_ ?_
      | refine LeO.bind ?_ (fun _ => ?_)
    · intro y0
      unfold laws_FnWordsCompared.j1
      repeat' first
      | (with_reducible exact ih0 _ _ _ _ _ _ _ _ _ _)
      | (with_reducible exact ih1 _)
      | (with_reducible exact ih2 _ _ _ _ _ _)
      | (with_reducible exact ih3 _)
      | (with_reducible exact ih4 _ _ _ _)
      | (with_reducible exact ih5 _ _ _ _ _)
      | (with_reducible exact ih6 _ _ _ _ _ _)
      | (with_reducible exact impl_BordersOf.mono _ _)
      | (with_reducible exact impl_Concat.mono _ _)
      | (with_reducible exact impl_CountIn.mono _ _ _)
      | (with_reducible exact impl_LessWord.mono _ _ _)
      | (with_reducible exact impl_LettersOf.mono _ _)
      | (with_reducible exact laws_ySame.mono _ _ _)
      | (with_reducible exact laws_ySum.mono _ _)
      | (with_reducible exact spec_Begins.mono _ _ _)
      | (with_reducible exact spec_BordersOf.mono _ _)
      | (with_reducible exact spec_Concat.mono _ _)
      | (with_reducible exact spec_CountIn.mono _ _ _)
      | (with_reducible exact spec_DrawBegins.mono _ _)
      | (with_reducible exact spec_DrawBordersOf.mono _ _)
      | (with_reducible exact spec_DrawConcat.mono _ _)
      | (with_reducible exact spec_Ends.mono _ _ _)
      | (with_reducible exact spec_IsWord.mono _ _)
      | (with_reducible exact spec_LessWord.mono _ _ _)
      | (with_reducible exact spec_LettersOf.mono _ _)
      | (with_reducible exact LeO.refl _)
      | (with_reducible exact LeO.none _)
      | (with_reducible refine LeO.ite ?_ ?_)
      | (with_reducible refine LeO.bind ?_ (fun _ => ?_))
      | exact ih0 _ _ _ _ _ _ _ _ _ _
      | exact ih1 _
      | exact ih2 _ _ _ _ _ _
      | exact ih3 _
      | exact ih4 _ _ _ _
      | exact ih5 _ _ _ _ _
      | exact ih6 _ _ _ _ _ _
      | exact impl_BordersOf.mono _ _
      | exact impl_Concat.mono _ _
      | exact impl_CountIn.mono _ _ _
      | exact impl_LessWord.mono _ _ _
      | exact impl_LettersOf.mono _ _
      | exact laws_ySame.mono _ _ _
      | exact laws_ySum.mono _ _
      | exact spec_Begins.mono _ _ _
      | exact spec_BordersOf.mono _ _
      | exact spec_Concat.mono _ _
      | exact spec_CountIn.mono _ _ _
      | exact spec_DrawBegins.mono _ _
      | exact spec_DrawBordersOf.mono _ _
      | exact spec_DrawConcat.mono _ _
      | exact spec_Ends.mono _ _ _
      | exact spec_IsWord.mono _ _
      | exact spec_LessWord.mono _ _ _
      | exact spec_LettersOf.mono _ _
      | exact LeO.none _
      | refine LeO.ite ?_ ?_
      | refine LeO.bind ?_ (fun _ => ?_)
    · intro y0 y1 y2 y3 y4 y5
      unfold laws_FnWordsCompared.j2
      repeat' first
      | (with_reducible exact ih0 _ _ _ _ _ _ _ _ _ _)
      | (with_reducible exact ih1 _)
      | (with_reducible exact ih2 _ _ _ _ _ _)
      | (with_reducible exact ih3 _)
      | (with_reducible exact ih4 _ _ _ _)
      | (with_reducible exact ih5 _ _ _ _ _)
      | (with_reducible exact ih6 _ _ _ _ _ _)
      | (with_reducible exact impl_BordersOf.mono _ _)
      | (with_reducible exact impl_Concat.mono _ _)
      | (with_reducible exact impl_CountIn.mono _ _ _)
      | (with_reducible exact impl_LessWord.mono _ _ _)
      | (with_reducible exact impl_LettersOf.mono _ _)
      | (with_reducible exact laws_ySame.mono _ _ _)
      | (with_reducible exact laws_ySum.mono _ _)
      | (with_reducible exact spec_Begins.mono _ _ _)
      | (with_reducible exact spec_BordersOf.mono _ _)
      | (with_reducible exact spec_Concat.mono _ _)
      | (with_reducible exact spec_CountIn.mono _ _ _)
      | (with_reducible exact spec_DrawBegins.mono _ _)
      | (with_reducible exact spec_DrawBordersOf.mono _ _)
      | (with_reducible exact spec_DrawConcat.mono _ _)
      | (with_reducible exact spec_Ends.mono _ _ _)
      | (with_reducible exact spec_IsWord.mono _ _)
      | (with_reducible exact spec_LessWord.mono _ _ _)
      | (with_reducible exact spec_LettersOf.mono _ _)
      | (with_reducible exact LeO.refl _)
      | (with_reducible exact LeO.none _)
      | (with_reducible refine LeO.ite ?_ ?_)
      | (with_reducible refine LeO.bind ?_ (fun _ => ?_))
      | exact ih0 _ _ _ _ _ _ _ _ _ _
      | exact ih1 _
      | exact ih2 _ _ _ _ _ _
      | exact ih3 _
      | exact ih4 _ _ _ _
      | exact ih5 _ _ _ _ _
      | exact ih6 _ _ _ _ _ _
      | exact impl_BordersOf.mono _ _
      | exact impl_Concat.mono _ _
      | exact impl_CountIn.mono _ _ _
      | exact impl_LessWord.mono _ _ _
      | exact impl_LettersOf.mono _ _
      | exact laws_ySame.mono _ _ _
      | exact laws_ySum.mono _ _
      | exact spec_Begins.mono _ _ _
      | exact spec_BordersOf.mono _ _
      | exact spec_Concat.mono _ _
      | exact spec_CountIn.mono _ _ _
      | exact spec_DrawBegins.mono _ _
      | exact spec_DrawBordersOf.mono _ _
      | exact spec_DrawConcat.mono _ _
      | exact spec_Ends.mono _ _ _
      | exact spec_IsWord.mono _ _
      | exact spec_LessWord.mono _ _ _
      | exact spec_LettersOf.mono _ _
      | exact LeO.none _
      | refine LeO.ite ?_ ?_
      | refine LeO.bind ?_ (fun _ => ?_)
    · intro y0
      unfold laws_FnWordsCompared.j4
      repeat' first
      | (with_reducible exact ih0 _ _ _ _ _ _ _ _ _ _)
      | (with_reducible exact ih1 _)
      | (with_reducible exact ih2 _ _ _ _ _ _)
      | (with_reducible exact ih3 _)
      | (with_reducible exact ih4 _ _ _ _)
      | (with_reducible exact ih5 _ _ _ _ _)
      | (with_reducible exact ih6 _ _ _ _ _ _)
      | (with_reducible exact impl_BordersOf.mono _ _)
      | (with_reducible exact impl_Concat.mono _ _)
      | (with_reducible exact impl_CountIn.mono _ _ _)
      | (with_reducible exact impl_LessWord.mono _ _ _)
      | (with_reducible exact impl_LettersOf.mono _ _)
      | (with_reducible exact laws_ySame.mono _ _ _)
      | (with_reducible exact laws_ySum.mono _ _)
      | (with_reducible exact spec_Begins.mono _ _ _)
      | (with_reducible exact spec_BordersOf.mono _ _)
      | (with_reducible exact spec_Concat.mono _ _)
      | (with_reducible exact spec_CountIn.mono _ _ _)
      | (with_reducible exact spec_DrawBegins.mono _ _)
      | (with_reducible exact spec_DrawBordersOf.mono _ _)
      | (with_reducible exact spec_DrawConcat.mono _ _)
      | (with_reducible exact spec_Ends.mono _ _ _)
      | (with_reducible exact spec_IsWord.mono _ _)
      | (with_reducible exact spec_LessWord.mono _ _ _)
      | (with_reducible exact spec_LettersOf.mono _ _)
      | (with_reducible exact LeO.refl _)
      | (with_reducible exact LeO.none _)
      | (with_reducible refine LeO.ite ?_ ?_)
      | (with_reducible refine LeO.bind ?_ (fun _ => ?_))
      | exact ih0 _ _ _ _ _ _ _ _ _ _
      | exact ih1 _
      | exact ih2 _ _ _ _ _ _
      | exact ih3 _
      | exact ih4 _ _ _ _
      | exact ih5 _ _ _ _ _
      | exact ih6 _ _ _ _ _ _
      | exact impl_BordersOf.mono _ _
      | exact impl_Concat.mono _ _
      | exact impl_CountIn.mono _ _ _
      | exact impl_LessWord.mono _ _ _
      | exact impl_LettersOf.mono _ _
      | exact laws_ySame.mono _ _ _
      | exact laws_ySum.mono _ _
      | exact spec_Begins.mono _ _ _
      | exact spec_BordersOf.mono _ _
      | exact spec_Concat.mono _ _
      | exact spec_CountIn.mono _ _ _
      | exact spec_DrawBegins.mono _ _
      | exact spec_DrawBordersOf.mono _ _
      | exact spec_DrawConcat.mono _ _
      | exact spec_Ends.mono _ _ _
      | exact spec_IsWord.mono _ _
      | exact spec_LessWord.mono _ _ _
      | exact spec_LettersOf.mono _ _
      | exact LeO.none _
      | refine LeO.ite ?_ ?_
      | refine LeO.bind ?_ (fun _ => ?_)
    · intro y0 y1 y2 y3
      unfold laws_FnWordsCompared.j5
      repeat' first
      | (with_reducible exact ih0 _ _ _ _ _ _ _ _ _ _)
      | (with_reducible exact ih1 _)
      | (with_reducible exact ih2 _ _ _ _ _ _)
      | (with_reducible exact ih3 _)
      | (with_reducible exact ih4 _ _ _ _)
      | (with_reducible exact ih5 _ _ _ _ _)
      | (with_reducible exact ih6 _ _ _ _ _ _)
      | (with_reducible exact impl_BordersOf.mono _ _)
      | (with_reducible exact impl_Concat.mono _ _)
      | (with_reducible exact impl_CountIn.mono _ _ _)
      | (with_reducible exact impl_LessWord.mono _ _ _)
      | (with_reducible exact impl_LettersOf.mono _ _)
      | (with_reducible exact laws_ySame.mono _ _ _)
      | (with_reducible exact laws_ySum.mono _ _)
      | (with_reducible exact spec_Begins.mono _ _ _)
      | (with_reducible exact spec_BordersOf.mono _ _)
      | (with_reducible exact spec_Concat.mono _ _)
      | (with_reducible exact spec_CountIn.mono _ _ _)
      | (with_reducible exact spec_DrawBegins.mono _ _)
      | (with_reducible exact spec_DrawBordersOf.mono _ _)
      | (with_reducible exact spec_DrawConcat.mono _ _)
      | (with_reducible exact spec_Ends.mono _ _ _)
      | (with_reducible exact spec_IsWord.mono _ _)
      | (with_reducible exact spec_LessWord.mono _ _ _)
      | (with_reducible exact spec_LettersOf.mono _ _)
      | (with_reducible exact LeO.refl _)
      | (with_reducible exact LeO.none _)
      | (with_reducible refine LeO.ite ?_ ?_)
      | (with_reducible refine LeO.bind ?_ (fun _ => ?_))
      | exact ih0 _ _ _ _ _ _ _ _ _ _
      | exact ih1 _
      | exact ih2 _ _ _ _ _ _
      | exact ih3 _
      | exact ih4 _ _ _ _
      | exact ih5 _ _ _ _ _
      | exact ih6 _ _ _ _ _ _
      | exact impl_BordersOf.mono _ _
      | exact impl_Concat.mono _ _
      | exact impl_CountIn.mono _ _ _
      | exact impl_LessWord.mono _ _ _
      | exact impl_LettersOf.mono _ _
      | exact laws_ySame.mono _ _ _
      | exact laws_ySum.mono _ _
      | exact spec_Begins.mono _ _ _
      | exact spec_BordersOf.mono _ _
      | exact spec_Concat.mono _ _
      | exact spec_CountIn.mono _ _ _
      | exact spec_DrawBegins.mono _ _
      | exact spec_DrawBordersOf.mono _ _
      | exact spec_DrawConcat.mono _ _
      | exact spec_Ends.mono _ _ _
      | exact spec_IsWord.mono _ _
      | exact spec_LessWord.mono _ _ _
      | exact spec_LettersOf.mono _ _
      | exact LeO.none _
      | refine LeO.ite ?_ ?_
      | refine LeO.bind ?_ (fun _ => ?_)
    · intro y0 y1 y2 y3 y4
      unfold laws_FnWordsCompared.l1
      repeat' first
      | (with_reducible exact ih0 _ _ _ _ _ _ _ _ _ _)
      | (with_reducible exact ih1 _)
      | (with_reducible exact ih2 _ _ _ _ _ _)
      | (with_reducible exact ih3 _)
      | (with_reducible exact ih4 _ _ _ _)
      | (with_reducible exact ih5 _ _ _ _ _)
      | (with_reducible exact ih6 _ _ _ _ _ _)
      | (with_reducible exact impl_BordersOf.mono _ _)
      | (with_reducible exact impl_Concat.mono _ _)
      | (with_reducible exact impl_CountIn.mono _ _ _)
      | (with_reducible exact impl_LessWord.mono _ _ _)
      | (with_reducible exact impl_LettersOf.mono _ _)
      | (with_reducible exact laws_ySame.mono _ _ _)
      | (with_reducible exact laws_ySum.mono _ _)
      | (with_reducible exact spec_Begins.mono _ _ _)
      | (with_reducible exact spec_BordersOf.mono _ _)
      | (with_reducible exact spec_Concat.mono _ _)
      | (with_reducible exact spec_CountIn.mono _ _ _)
      | (with_reducible exact spec_DrawBegins.mono _ _)
      | (with_reducible exact spec_DrawBordersOf.mono _ _)
      | (with_reducible exact spec_DrawConcat.mono _ _)
      | (with_reducible exact spec_Ends.mono _ _ _)
      | (with_reducible exact spec_IsWord.mono _ _)
      | (with_reducible exact spec_LessWord.mono _ _ _)
      | (with_reducible exact spec_LettersOf.mono _ _)
      | (with_reducible exact LeO.refl _)
      | (with_reducible exact LeO.none _)
      | (with_reducible refine LeO.ite ?_ ?_)
      | (with_reducible refine LeO.bind ?_ (fun _ => ?_))
      | exact ih0 _ _ _ _ _ _ _ _ _ _
      | exact ih1 _
      | exact ih2 _ _ _ _ _ _
      | exact ih3 _
      | exact ih4 _ _ _ _
      | exact ih5 _ _ _ _ _
      | exact ih6 _ _ _ _ _ _
      | exact impl_BordersOf.mono _ _
      | exact impl_Concat.mono _ _
      | exact impl_CountIn.mono _ _ _
      | exact impl_LessWord.mono _ _ _
      | exact impl_LettersOf.mono _ _
      | exact laws_ySame.mono _ _ _
      | exact laws_ySum.mono _ _
      | exact spec_Begins.mono _ _ _
      | exact spec_BordersOf.mono _ _
      | exact spec_Concat.mono _ _
      | exact spec_CountIn.mono _ _ _
      | exact spec_DrawBegins.mono _ _
      | exact spec_DrawBordersOf.mono _ _
      | exact spec_DrawConcat.mono _ _
      | exact spec_Ends.mono _ _ _
      | exact spec_IsWord.mono _ _
      | exact spec_LessWord.mono _ _ _
      | exact spec_LettersOf.mono _ _
      | exact LeO.none _
      | refine LeO.ite ?_ ?_
      | refine LeO.bind ?_ (fun _ => ?_)
    · intro y0 y1 y2 y3 y4 y5
      unfold laws_FnWordsCompared.l0
      repeat' first
      | (with_reducible exact ih0 _ _ _ _ _ _ _ _ _ _)
      | (with_reducible exact ih1 _)
      | (with_reducible exact ih2 _ _ _ _ _ _)
      | (with_reducible exact ih3 _)
      | (with_reducible exact ih4 _ _ _ _)
      | (with_reducible exact ih5 _ _ _ _ _)
      | (with_reducible exact ih6 _ _ _ _ _ _)
      | (with_reducible exact impl_BordersOf.mono _ _)
      | (with_reducible exact impl_Concat.mono _ _)
      | (with_reducible exact impl_CountIn.mono _ _ _)
      | (with_reducible exact impl_LessWord.mono _ _ _)
      | (with_reducible exact impl_LettersOf.mono _ _)
      | (with_reducible exact laws_ySame.mono _ _ _)
      | (with_reducible exact laws_ySum.mono _ _)
      | (with_reducible exact spec_Begins.mono _ _ _)
      | (with_reducible exact spec_BordersOf.mono _ _)
      | (with_reducible exact spec_Concat.mono _ _)
      | (with_reducible exact spec_CountIn.mono _ _ _)
      | (with_reducible exact spec_DrawBegins.mono _ _)
      | (with_reducible exact spec_DrawBordersOf.mono _ _)
      | (with_reducible exact spec_DrawConcat.mono _ _)
      | (with_reducible exact spec_Ends.mono _ _ _)
      | (with_reducible exact spec_IsWord.mono _ _)
      | (with_reducible exact spec_LessWord.mono _ _ _)
      | (with_reducible exact spec_LettersOf.mono _ _)
      | (with_reducible exact LeO.refl _)
      | (with_reducible exact LeO.none _)
      | (with_reducible refine LeO.ite ?_ ?_)
      | (with_reducible refine LeO.bind ?_ (fun _ => ?_))
      | exact ih0 _ _ _ _ _ _ _ _ _ _
      | exact ih1 _
      | exact ih2 _ _ _ _ _ _
      | exact ih3 _
      | exact ih4 _ _ _ _
      | exact ih5 _ _ _ _ _
      | exact ih6 _ _ _ _ _ _
      | exact impl_BordersOf.mono _ _
      | exact impl_Concat.mono _ _
      | exact impl_CountIn.mono _ _ _
      | exact impl_LessWord.mono _ _ _
      | exact impl_LettersOf.mono _ _
      | exact laws_ySame.mono _ _ _
      | exact laws_ySum.mono _ _
      | exact spec_Begins.mono _ _ _
      | exact spec_BordersOf.mono _ _
      | exact spec_Concat.mono _ _
      | exact spec_CountIn.mono _ _ _
      | exact spec_DrawBegins.mono _ _
      | exact spec_DrawBordersOf.mono _ _
      | exact spec_DrawConcat.mono _ _
      | exact spec_Ends.mono _ _ _
      | exact spec_IsWord.mono _ _
      | exact spec_LessWord.mono _ _ _
      | exact spec_LettersOf.mono _ _
      | exact LeO.none _
      | refine LeO.ite ?_ ?_
      | refine LeO.bind ?_ (fun _ => ?_)
theorem laws_FnWordsCompared.mono : ∀ a0 a1 k, LeO (laws_FnWordsCompared.f k a0 a1) (laws_FnWordsCompared.f (k + 1) a0 a1) := by
  intro a0 a1 k
  obtain ⟨ih0, ih1, ih2, ih3, ih4, ih5, ih6⟩ := laws_FnWordsCompared.mono_l k
  unfold laws_FnWordsCompared.f
  repeat' first
      | (with_reducible exact ih0 _ _ _ _ _ _ _ _ _ _)
      | (with_reducible exact ih1 _)
      | (with_reducible exact ih2 _ _ _ _ _ _)
      | (with_reducible exact ih3 _)
      | (with_reducible exact ih4 _ _ _ _)
      | (with_reducible exact ih5 _ _ _ _ _)
      | (with_reducible exact ih6 _ _ _ _ _ _)
      | (with_reducible exact impl_BordersOf.mono _ _)
      | (with_reducible exact impl_Concat.mono _ _)
      | (with_reducible exact impl_CountIn.mono _ _ _)
      | (with_reducible exact impl_LessWord.mono _ _ _)
      | (with_reducible exact impl_LettersOf.mono _ _)
      | (with_reducible exact laws_ySame.mono _ _ _)
      | (with_reducible exact laws_ySum.mono _ _)
      | (with_reducible exact spec_Begins.mono _ _ _)
      | (with_reducible exact spec_BordersOf.mono _ _)
      | (with_reducible exact spec_Concat.mono _ _)
      | (with_reducible exact spec_CountIn.mono _ _ _)
      | (with_reducible exact spec_DrawBegins.mono _ _)
      | (with_reducible exact spec_DrawBordersOf.mono _ _)
      | (with_reducible exact spec_DrawConcat.mono _ _)
      | (with_reducible exact spec_Ends.mono _ _ _)
      | (with_reducible exact spec_IsWord.mono _ _)
      | (with_reducible exact spec_LessWord.mono _ _ _)
      | (with_reducible exact spec_LettersOf.mono _ _)
      | (with_reducible exact LeO.refl _)
      | (with_reducible exact LeO.none _)
      | (with_reducible refine LeO.ite ?_ ?_)
      | (with_reducible refine LeO.bind ?_ (fun _ => ?_))
      | exact ih0 _ _ _ _ _ _ _ _ _ _
      | exact ih1 _
      | exact ih2 _ _ _ _ _ _
      | exact ih3 _
      | exact ih4 _ _ _ _
      | exact ih5 _ _ _ _ _
      | exact ih6 _ _ _ _ _ _
      | exact impl_BordersOf.mono _ _
      | exact impl_Concat.mono _ _
      | exact impl_CountIn.mono _ _ _
      | exact impl_LessWord.mono _ _ _
      | exact impl_LettersOf.mono _ _
      | exact laws_ySame.mono _ _ _
      | exact laws_ySum.mono _ _
      | exact spec_Begins.mono _ _ _
      | exact spec_BordersOf.mono _ _
      | exact spec_Concat.mono _ _
      | exact spec_CountIn.mono _ _ _
      | exact spec_DrawBegins.mono _ _
      | exact spec_DrawBordersOf.mono _ _
      | exact spec_DrawConcat.mono _ _
      | exact spec_Ends.mono _ _ _
      | exact spec_IsWord.mono _ _
      | exact spec_LessWord.mono _ _ _
      | exact spec_LettersOf.mono _ _
      | exact LeO.none _
      | refine LeO.ite ?_ ?_
      | refine LeO.bind ?_ (fun _ => ?_)
def cA : Code → Code
  | .seq a _ => a
  | c => c
def cB : Code → Code
  | .seq _ b => b
  | c => c
theorem region_of {P : Program} {c : Code} {n : Nat} {ops : Array Oper} {b : Bool} {Q : Exit → Act → World → Prop} {a : Act} {w : World} (h : c = .region n ops b) (hw : (Code.region n ops b).wp P Q a w) : c.wp P Q a w := h ▸ hw
theorem cond_of {P : Program} {c x y : Code} {o : Operand} {Q : Exit → Act → World → Prop} {K : Act → World → Prop} (h : c = .cond o x y) (h1 : ∀ a w, c.wp P Q a w → K a w) : ∀ a w, (Code.cond o x y).wp P Q a w → K a w := h ▸ h1
theorem seq_of {P : Program} {c x y : Code} {Q : Exit → Act → World → Prop} {K : Act → World → Prop} (h : c = .seq x y) (h1 : ∀ a w, c.wp P Q a w → K a w) : ∀ a w, (Code.seq x y).wp P Q a w → K a w := h ▸ h1
set_option maxHeartbeats 16000000 in
set_option maxRecDepth 100000 in
theorem part42 (A1 : Option Addr) (c1 : Nat) (l1 : List Int) (r : Bool) (w wc : World) (kj168 : Nat) (Ao171 : Option Addr) (co171 : Nat) (t325 : List ByteArray) (t328 : ByteArray) (t329 : Bool) (HO_38 : Aside0 (Kd.R Kd.string 9 wc w.heap.size (fun _ => True) (.slice Ao171 t325.length co171) t325)) (HB : Aside0 (Below w.heap.size w wc)) (HA : Aside0 ((if t329 = true then (laws_FnWordsCompared.l1 kj168 t328 0 t325 (t325.length : Int) 0) else (some true)) = some r)) (z0 z1 z2 z3 z4 z5 z6 z7 z8 z9 z10 z11 z12 z13 z14 z15 z16 z17 z18 z19 z20 z21 z22 z23 z24 z25 z26 z27 z28 z29 z30 z31 z32 z33 z34 z35 z36 z37 z43 z44 z45 z46 z47 z48 z49 z50 z51 z52 z53 z54 z55 z56 z57 z58 z59 z60 z61 z62 z63 z64 z65 z66 z67 z68 z69 z70 z71 z72 z73 z74 z75 z76 z77 z78 z79 z80 z81 z82 z83 z84 z85 z86 z87 z88 z89 z90 z91 z92 z93 z94 z95 z96 z97 z98 z99 z100 z101 z102 z103 z104 z105 z106 z107 z108 z109 z110 z111 z112 z113 z114 z115 z116 z117 z118 z119 z120 z121 z122 z123 z124 z125 z126 z127 z128 z129 z130 z131 z132 z133 z134 z135 z136 z137 z138 z139 z140 z141 z142 z143 z144 z145 z146 z147 z148 z149 z150 z151 z152 z153 z154 z155 z156 z157 z158 z159 z160 z161 z162 z163 z164 z165 z166 z167 z168 z169 z170 z171 z172 z173 z174 z175 z176 z177 z178 z179 z180 z181 z182 z183 z184 z185 z186 z187 z188 z189 z190 z191 z192 z193 z194 z195 z196 z197 z198 z199 z200 z201 z202 z203 z204 z205 z206 z207 z208 z209 z210 z211 z212 z213 z214 z215 z216 z217 z218 z219 z220 z221 z222 z223 z224 z225 z226 z227 z228 z229 z230 z231 z232 z233 z234 z235 z236 z237 z238 z239 z240 z241 z242 z243 z244 z245 z246 z247 z248 z249 z250 z251 z252 z253 z254 z255 z256 z257 z258 z259 z260 z261 z262 z263 z264 z265 z266 z267 z268 z269 z270 z271 z272 z273 z274 z275 z276 z277 z278 z279 z280 z281 z282 z283 z284 z285 z286 z287 z288 z289 z290 z291 z292 z293 z294 z295 z296 z297 z298 z299 z300 z301 z302 z303 z304 z305 z306 z307 z308 z309 z310 z311 z312 z313 z314 z315 z316 z317 z318 z319 z320 z321 z322 z323 z324 z325 z326 z327 z328 z329 z330 z331 z332 z333 z334 z335 z336 z337 z338 z339 z340 z341 z342 z343 z344 z345 z346 : Value) (K1 K2 : Act → World → Prop) (h1 : ∀ a w', Code.wp Tryd.prog (cB (cA (cB (cB (cB (cB (cB (cB (cB (cB (cB (cB (cB (cB (cB ((cB ((cB ((cB ((cB ((cB ((cB ((cB ((cB ((cB ((cB ((Tryd.f3.body.getD .skip))))))))))))))))))))))))))))))))))))) (Exit.then K2 (bodyPost Tryd.prog Tryd.f3 (fun e w' => e = .returned (.bool r) ∧ Below w.heap.size w w'))) a w' → K1 a w') (h2 : ∀ a w', Code.wp Tryd.prog (cB (cB (cB (cB (cB (cB (cB (cB (cB (cB (cB (cB (cB (cB ((cB ((cB ((cB ((cB ((cB ((cB ((cB ((cB ((cB ((cB ((Tryd.f3.body.getD .skip)))))))))))))))))))))))))))))))))))) (bodyPost Tryd.prog Tryd.f3 (fun e w' => e = .returned (.bool r) ∧ Below w.heap.size w w')) a w' → K2 a w') :
    Code.wp Tryd.prog (cA (cA (cB (cB (cB (cB (cB (cB (cB (cB (cB (cB (cB (cB (cB ((cB ((cB ((cB ((cB ((cB ((cB ((cB ((cB ((cB ((cB ((Tryd.f3.body.getD .skip))))))))))))))))))))))))))))))))))))) (Exit.then K1 (Exit.then K2 (bodyPost Tryd.prog Tryd.f3 (fun e w' => e = .returned (.bool r) ∧ Below w.heap.size w w')))) { tmps := #[z0, z1, z2, z3, z4, z5, z6, z7, z8, z9, z10, z11, z12, z13, z14, z15, z16, z17, z18, z19, z20, z21, z22, z23, z24, z25, z26, z27, z28, z29, z30, z31, z32, z33, z34, z35, z36, z37, .slice Ao171 t325.length co171, .string t328, .bool t329, .string t328, .bool t329, z43, z44, z45, z46, z47, z48, z49, z50, z51, z52, z53, z54, z55, z56, z57, z58, z59, z60, z61, z62, z63, z64, z65, z66, z67, z68, z69, z70, z71, z72, z73, z74, z75, z76, z77, z78, z79, z80, z81, z82, z83, z84, z85, z86, z87, z88, z89, z90, z91, z92, z93, z94, z95, z96, z97, z98, z99, z100, z101, z102, z103, z104, z105, z106, z107, z108, z109, z110, z111, z112, z113, z114, z115, z116, z117, z118, z119, z120, z121, z122, z123, z124, z125, z126, z127, z128, z129, z130, z131, z132, z133, z134, z135, z136, z137, z138, z139, z140, z141, z142, z143, z144, z145, z146, z147, z148, z149, z150, z151, z152, z153, z154, z155, z156, z157, z158, z159, z160, z161, z162, z163, z164, z165, z166, z167, z168, z169, z170, z171, z172, z173, z174, z175, z176, z177, z178, z179, z180, z181, z182, z183, z184, z185, z186, z187, z188, z189, z190, z191, z192, z193, z194, z195, z196, z197, z198, z199, z200, z201, z202, z203, z204, z205, z206, z207, z208, z209, z210, z211, z212, z213, z214, z215, z216, z217, z218, z219, z220, z221, z222, z223, z224, z225, z226, z227, z228, z229, z230, z231, z232, z233, z234, z235, z236, z237, z238, z239, z240, z241, z242, z243, z244, z245, z246, z247, z248, z249, z250, z251, z252, z253, z254, z255, z256, z257, z258, z259, z260, z261, z262, z263, z264, z265, z266, z267, z268, z269, z270, z271, z272, z273, z274, z275, z276, z277, z278, z279, z280, z281, z282, z283, z284, z285, z286, z287, z288, z289, z290, z291, z292, z293, z294, z295, z296, z297, z298, z299, z300, z301, z302, z303, z304, z305, z306, z307, z308, z309, z310, z311, z312, z313, z314, z315, z316, z317, z318, z319, z320, z321, z322, z323, z324, z325, z326, z327, z328, z329, z330, z331, z332, z333, z334, z335, z336, z337, z338, z339, z340, z341, z342, z343, z344, z345, z346], defers := [] } wc := by
  replace h1 := cond_of rfl h1
  replace h2 := seq_of rfl h2
  refine region_of rfl ?_
  have HJ13 : Aside0 (0 ≤ 0) := ⟨Nat.le_refl _⟩
  have HJ48 : Aside0 (0 ≤ 0) := ⟨Nat.le_refl _⟩
  have HJ112 : Aside0 (0 ≤ 0) := ⟨Nat.le_refl _⟩
  have HJ137 : Aside0 (0 ≤ 0) := ⟨Nat.le_refl _⟩
  have HJ168 : Aside0 (0 ≤ 0) := ⟨Nat.le_refl _⟩
  have H := HA.out
  clear HA
  by_cases c175 : t329 = true
  · subst c175
    have H1 : (laws_FnWordsCompared.l1 kj168 t328 0 t325 (t325.length : Int) 0) = some r := by rw [if_pos rfl] at H; exact H
    clear H
    have H := H1
    clear H1
    have H' := Aside0.mk H
    clear H
    go_wp2
    go_loopg [43, 334] kj168 (fun kq v43 v334 w' => ∃ (x43_6 : Int) (x334_6 : Int), v43 = .int .i64 x43_6 ∧ v334 = .int .i64 x334_6 ∧ Aside0 (laws_FnWordsCompared.l1 kq t328 x43_6 t325 (t325.length : Int) x334_6 = some r) ∧ Aside0 (kq ≤ kj168) ∧ Aside0 (Kd.R Kd.string 9 w' w.heap.size (fun _ => True) (.slice Ao171 t325.length co171) t325) ∧ Aside0 (Below w.heap.size w w'))
    case atStart => exact ⟨(0), (0), (by first | rfl | (simp; done) | (simp [*]; done) | (simp only [IntWalk.i64_left]; done) | (simp [IntWalk.i64_left]; done) | (simp [*, IntWalk.i64_left]; done)), (by first | rfl | (simp; done) | (simp [*]; done) | (simp only [IntWalk.i64_left]; done) | (simp [IntWalk.i64_left]; done) | (simp [*, IntWalk.i64_left]; done)), H', ⟨Nat.le_refl _⟩, ⟨by (with_reducible repeat (first | apply Kd.R_alloc | apply Kd.R_drewN | apply Kd.R_drew)); exact HO_38.out⟩, ⟨by repeat (first | (with_reducible first | exact HB.out | apply below_alloc | apply pw_below_drewN | apply below_drew1) | exact HB.out)⟩⟩
    case round =>
      clear H'
      try clear c1
      try clear c2
      try clear p2
      try clear c3
      try clear p3
      try clear q3
      try clear hx3
      try clear c4
      try clear c5
      try clear c6
      try clear p6
      try clear c7
      try clear c8
      try clear c9
      try clear c10
      try clear c11
      try clear c12
      try clear c13
      try clear c14
      try clear c15
      try clear c16
      try clear c17
      try clear c18
      try clear c19
      try clear c20
      try clear c21
      try clear c21b0
      try clear c21b1
      try clear c21b2
      try clear c22
      try clear c22b0
      try clear c22b1
      try clear c22b2
      try clear c23
      try clear c23b0
      try clear c23b1
      try clear c23b2
      try clear c24
      try clear c24b0
      try clear c24b1
      try clear c24b2
      try clear c25
      try clear c25b0
      try clear c25b1
      try clear c25b2
      try clear c26
      try clear c26b0
      try clear c26b1
      try clear c27
      try clear c27b0
      try clear c27b1
      try clear c27b2
      try clear c28
      try clear c28b0
      try clear c28b1
      try clear c28b2
      try clear c29
      try clear c29b0
      try clear c29b1
      try clear c29b2
      try clear c30
      try clear c30b0
      try clear c30b1
      try clear c30b2
      try clear c32
      try clear p32
      try clear q32
      try clear hx32
      try clear c34
      try clear c34b0
      try clear c34b1
      try clear c34b2
      try clear c42
      try clear c42b0
      try clear c42b1
      try clear c42b2
      try clear c48
      try clear c50
      try clear c52
      try clear c53
      try clear c54
      try clear c57
      try clear c57b0
      try clear c57b1
      try clear c57b2
      try clear c59
      try clear c59b0
      try clear c59b1
      try clear c59b2
      try clear c61
      try clear c62
      try clear c63
      try clear c63b0
      try clear c63b1
      try clear p64
      try clear c66
      try clear c67
      try clear c67b0
      try clear c67b1
      try clear c72
      try clear c74
      try clear c74b0
      try clear c74b1
      try clear c74b2
      try clear c76
      try clear c76b0
      try clear c76b1
      try clear c76b2
      try clear c78
      try clear c79
      try clear c80
      try clear c80b0
      try clear c80b1
      try clear c83
      try clear c84
      try clear c84b0
      try clear c84b1
      try clear c89
      try clear c89b0
      try clear c89b1
      try clear c91
      try clear c91b0
      try clear c91b1
      try clear c91b2
      try clear c93
      try clear c93b0
      try clear c93b1
      try clear c93b2
      try clear c95
      try clear c96
      try clear c97
      try clear c97b0
      try clear c97b1
      try clear c100
      try clear c101
      try clear c101b0
      try clear c101b1
      try clear c119
      try clear c119b0
      try clear c119b1
      try clear c119b2
      try clear c121
      try clear c122
      try clear c122b0
      try clear c122b1
      try clear c122b2
      try clear c126
      try clear c137
      try clear c139
      try clear c140
      try clear c140b0
      try clear c141
      try clear c141b0
      try clear c141b1
      try clear c142
      try clear c142b0
      try clear c142b1
      try clear c144
      try clear c145
      try clear c146
      try clear c146b0
      try clear c149
      try clear c149b0
      try clear c150
      try clear c150b0
      try clear c151
      try clear c151b0
      try clear c151b1
      try clear c158
      try clear c158b0
      try clear c158b1
      try clear c160
      try clear c160b0
      try clear c160b1
      try clear c173
      try clear c173b0
      try clear c173b1
      try clear c173b2
      try clear c174
      try clear c175
      try clear hx324_0
      try clear p2
      try clear p3
      try clear p32
      try clear p324
      try clear p6
      try clear p64
      try clear q3
      try clear q32
      try clear q324
      obtain ⟨x43_6, x334_6, rfl, rfl, HA, HK6, HO_332, HB⟩ := hrel
      cases gk with
      | zero => exact absurd HA.out (by simp [laws_FnWordsCompared.l1])
      | succ k6 =>
        have H := HA.out
        clear HA
        simp only [laws_FnWordsCompared.l1] at H
        by_cases c176 : x334_6 < (t325.length : Int)
        · rw [if_pos c176] at H
          have c176b0 : decide (x334_6 < (t325.length : Int)) = true := decide_eq_true c176
          clear c176
          by_cases c177 : 0 ≤ x334_6
          · rw [if_pos c177] at H
            have c177b0 : decide (0 ≤ x334_6) = true := decide_eq_true c177
            clear c177
            by_cases c178 : x334_6 < (t325.length : Int)
            · rw [if_pos c178] at H
              have c178b0 : decide (x334_6 < (t325.length : Int)) = true := decide_eq_true c178
              clear c178
              have H' := Aside0.mk H
              clear H
              have p332 : 0 ≤ (x334_6 : Int) := of_decide_eq_true (by first | (with_reducible assumption) | assumption)
              have q332 : x334_6 < (t325.length : Int) := of_decide_eq_true (by first | (with_reducible assumption) | assumption)
              obtain ⟨ad332, e332, hx332_0⟩ := Kd.at_string (Kd.R_reads' HO_332.out).2.2 x334_6 p332 q332
              cases e332
              replace p332 := eq_true p332
              replace q332 := eq_true q332
              go_wp2
              go_roundg k6
              case measure => have := HJ13.out; have := HJ48.out; have := HJ112.out; have := HJ137.out; have := HJ168.out; have := HK6.out; omega
              case rel => exact ⟨(wrap64 (x43_6 + ((rdOf ByteArray.empty t325 x334_6).size : Int))), (wrap64 (x334_6 + 1)), (by first | rfl | (simp; done) | (simp [*]; done) | (simp only [IntWalk.i64_left]; done) | (simp [IntWalk.i64_left]; done) | (simp [*, IntWalk.i64_left]; done)), (by first | rfl | (simp; done) | (simp [*]; done) | (simp only [IntWalk.i64_left]; done) | (simp [IntWalk.i64_left]; done) | (simp [*, IntWalk.i64_left]; done)), H', ⟨by have := HJ13.out; have := HJ48.out; have := HJ112.out; have := HJ137.out; have := HJ168.out; have := HK6.out; omega⟩, ⟨by (with_reducible repeat (first | apply Kd.R_alloc | apply Kd.R_drewN | apply Kd.R_drew)); exact HO_332.out⟩, ⟨by repeat (first | (with_reducible first | exact HB.out | apply below_alloc | apply pw_below_drewN | apply below_drew1) | exact HB.out)⟩⟩
            · rw [if_neg c178] at H
              exact absurd H (by simp)
          · rw [if_neg c177] at H
            exact absurd H (by simp)
        · rw [if_neg c176] at H
          have c176b0 : decide (x334_6 < (t325.length : Int)) = false := decide_eq_false c176
          clear c176
          obtain rfl := Option.some.inj H
          go_wp2
          go_ret
          exact ⟨by first | rfl | (simp [errW_none, errW_some] <;> rfl) | (simp [*, errW_none, errW_some] <;> rfl; done) | (generalize ByteArray.toList _ = q_; cases q_ <;> rfl), by repeat (first | (with_reducible first | exact HB.out | apply below_alloc | apply pw_below_drewN | apply below_drew1) | exact HB.out)⟩
  · replace c175 := Bool.eq_false_iff.mpr c175
    subst c175
    have H1 : (some true) = some r := by rw [if_neg (show ¬ (false = true) by decide)] at H; exact H
    clear H
    have H := H1
    clear H1
    obtain rfl := Option.some.inj H
    go_wp2
    go_ret
    exact ⟨by first | rfl | (simp [errW_none, errW_some] <;> rfl) | (simp [*, errW_none, errW_some] <;> rfl; done) | (generalize ByteArray.toList _ = q_; cases q_ <;> rfl), by repeat (first | (with_reducible first | exact HB.out | apply below_alloc | apply pw_below_drewN | apply below_drew1) | exact HB.out)⟩
set_option maxHeartbeats 16000000 in
set_option maxRecDepth 100000 in
theorem part39 (kq : Nat) (A1 : Option Addr) (c1 : Nat) (l1 : List Int) (r : Bool) (w wc : World) (HR1 : Aside0 (Kd.C (Kd.int .u8) w A1 l1.length l1)) (HC1 : Aside0 (l1.length ≤ c1)) (HB : Aside0 (Below w.heap.size w wc)) (HA : Aside0 (laws_FnWordsCompared.j4 kq l1 = some r)) (z0 z2 z3 z4 z5 z6 z7 z8 z9 z10 z11 z12 z13 z14 z15 z16 z17 z18 z19 z20 z21 z22 z23 z24 z25 z26 z27 z28 z29 z30 z31 z32 z33 z34 z35 z36 z37 z38 z39 z40 z41 z42 z43 z44 z45 z46 z47 z48 z49 z50 z51 z52 z53 z54 z55 z56 z57 z58 z59 z60 z61 z62 z63 z64 z65 z66 z67 z68 z69 z70 z71 z72 z73 z74 z75 z76 z77 z78 z79 z80 z81 z82 z83 z84 z85 z86 z87 z88 z89 z90 z91 z92 z93 z94 z95 z96 z97 z98 z99 z100 z101 z102 z103 z104 z105 z106 z107 z108 z109 z110 z111 z112 z113 z114 z115 z116 z117 z118 z119 z120 z121 z122 z123 z124 z125 z126 z127 z128 z129 z130 z131 z132 z133 z134 z135 z136 z137 z138 z139 z140 z141 z142 z143 z144 z145 z146 z147 z148 z149 z150 z151 z152 z153 z154 z155 z156 z157 z158 z159 z160 z161 z162 z163 z164 z165 z166 z167 z168 z169 z170 z171 z172 z173 z174 z175 z176 z177 z178 z179 z180 z181 z182 z183 z184 z185 z186 z187 z188 z189 z190 z191 z192 z193 z194 z195 z196 z197 z198 z199 z200 z201 z202 z203 z204 z205 z206 z207 z208 z209 z210 z211 z212 z213 z214 z215 z216 z217 z218 z219 z220 z221 z222 z223 z224 z225 z226 z227 z228 z229 z230 z231 z232 z233 z234 z235 z236 z237 z238 z239 z240 z241 z242 z243 z244 z245 z246 z247 z248 z249 z250 z251 z252 z253 z254 z255 z256 z257 z258 z259 z260 z261 z262 z263 z264 z265 z266 z267 z268 z269 z270 z271 z272 z273 z274 z275 z276 z277 z278 z279 z280 z281 z282 z283 z284 z285 z286 z287 z288 z289 z290 z291 z292 z293 z294 z295 z296 z297 z298 z299 z300 z301 z302 z303 z304 z305 z306 z307 z308 z309 z310 z311 z312 z313 z314 z315 z316 z317 z318 z319 z320 z321 z322 z323 z324 z325 z326 z327 z328 z329 z330 z331 z332 z333 z334 z335 z336 z337 z338 z339 z340 z341 z342 z343 z344 z345 z346 : Value) (K : Act → World → Prop) (hK : ∀ a w', Code.wp Tryd.prog (cB (cB (cB (cB (cB (cB (cB (cB (cB (cB (cB ((cB ((cB ((cB ((cB ((cB ((cB ((cB ((cB ((cB ((cB ((Tryd.f3.body.getD .skip))))))))))))))))))))))))))))))))) (bodyPost Tryd.prog Tryd.f3 (fun e w' => e = .returned (.bool r) ∧ Below w.heap.size w w')) a w' → K a w') :
    Code.wp Tryd.prog (cA (cB (cB (cB (cB (cB (cB (cB (cB (cB (cB ((cB ((cB ((cB ((cB ((cB ((cB ((cB ((cB ((cB ((cB ((Tryd.f3.body.getD .skip))))))))))))))))))))))))))))))))) (Exit.then K (bodyPost Tryd.prog Tryd.f3 (fun e w' => e = .returned (.bool r) ∧ Below w.heap.size w w'))) { tmps := #[z0, .slice A1 l1.length c1, z2, z3, z4, z5, z6, z7, z8, z9, z10, z11, z12, z13, z14, z15, z16, z17, z18, z19, z20, z21, z22, z23, z24, z25, z26, z27, z28, z29, z30, z31, z32, z33, z34, z35, z36, z37, z38, z39, z40, z41, z42, z43, z44, z45, z46, z47, z48, z49, z50, z51, z52, z53, z54, z55, z56, z57, z58, z59, z60, z61, z62, z63, z64, z65, z66, z67, z68, z69, z70, z71, z72, z73, z74, z75, z76, z77, z78, z79, z80, z81, z82, z83, z84, z85, z86, z87, z88, z89, z90, z91, z92, z93, z94, z95, z96, z97, z98, z99, z100, z101, z102, z103, z104, z105, z106, z107, z108, z109, z110, z111, z112, z113, z114, z115, z116, z117, z118, z119, z120, z121, z122, z123, z124, z125, z126, z127, z128, z129, z130, z131, z132, z133, z134, z135, z136, z137, z138, z139, z140, z141, z142, z143, z144, z145, z146, z147, z148, z149, z150, z151, z152, z153, z154, z155, z156, z157, z158, z159, z160, z161, z162, z163, z164, z165, z166, z167, z168, z169, z170, z171, z172, z173, z174, z175, z176, z177, z178, z179, z180, z181, z182, z183, z184, z185, z186, z187, z188, z189, z190, z191, z192, z193, z194, z195, z196, z197, z198, z199, z200, z201, z202, z203, z204, z205, z206, z207, z208, z209, z210, z211, z212, z213, z214, z215, z216, z217, z218, z219, z220, z221, z222, z223, z224, z225, z226, z227, z228, z229, z230, z231, z232, z233, z234, z235, z236, z237, z238, z239, z240, z241, z242, z243, z244, z245, z246, z247, z248, z249, z250, z251, z252, z253, z254, z255, z256, z257, z258, z259, z260, z261, z262, z263, z264, z265, z266, z267, z268, z269, z270, z271, z272, z273, z274, z275, z276, z277, z278, z279, z280, z281, z282, z283, z284, z285, z286, z287, z288, z289, z290, z291, z292, z293, z294, z295, z296, z297, z298, z299, z300, z301, z302, z303, z304, z305, z306, z307, z308, z309, z310, z311, z312, z313, z314, z315, z316, z317, z318, z319, z320, z321, z322, z323, z324, z325, z326, z327, z328, z329, z330, z331, z332, z333, z334, z335, z336, z337, z338, z339, z340, z341, z342, z343, z344, z345, z346], defers := [] } wc := by
  replace hK := seq_of rfl hK
  refine region_of rfl ?_
  cases kq with
  | zero => exact absurd HA.out (by simp [laws_FnWordsCompared.j4])
  | succ k9 =>
    have H := HA.out
    clear HA
    simp only [laws_FnWordsCompared.j4] at H
    replace H := Option.bind_eq_some_iff.mp H
    obtain ⟨t325, A166, H⟩ := H
    (try simp only at H)
    replace H := Option.bind_eq_some_iff.mp H
    obtain ⟨⟨t328, t329⟩, A167, H⟩ := H
    (try simp only at H)
    replace H := Option.bind_eq_some_iff.mp H
    obtain ⟨⟨t330, t331⟩, A168, H⟩ := H
    (try simp only at H)
    split at H
    case isFalse => cases H
    rename_i hq
    obtain ⟨e1, e2⟩ := hq
    subst e1 e2
    cases k9 with
    | zero => exact absurd H (by simp [laws_FnWordsCompared.j5])
    | succ k8 =>
    simp only [laws_FnWordsCompared.j5, Bool.false_eq_true, if_false] at H
    have H' := Aside0.mk H
    clear H
    replace A166 := Aside0.mk A166
    replace A167 := Aside0.mk A167
    replace A168 := Aside0.mk A168
    go_upto_region 42 with (first | ((with_reducible refine gate_callee (f := 24) rfl ?_); refine goesL_ (some 312) rfl rfl Tryd.func24 (by kernel_rfl) rfl #[.slice A1 l1.length c1] rfl (by (try simp only [List.map_toArray, List.map_cons, List.map_nil]); first | done | rfl | (simp only [List.length_drop, List.length_take]; rfl)) ?_; (with_reducible refine (spec_DrawConcat.calls (k8 + 1) _ _ l1 t325 _ ?side1 ?side2 A166.out).mono ?_); (case side1 => repeat (first | exact (Kd.C_below HR1.out HB.out) | (with_reducible refine Kd.C_alloc ?_ _) | (with_reducible refine Kd.C_drewN ?_ _) | (with_reducible refine Kd.C_drew ?_))); (case side2 => exact HC1.out); rintro e w170 ⟨v326, rfl, ho0, hb⟩; refine ⟨_, rfl, ?_⟩; have n0_ := Aside0.mk (Kd.R_lower ho0 (below_size (by repeat (first | (with_reducible first | exact HB.out | apply below_alloc | apply pw_below_drewN | apply below_drew1) | exact HB.out)))); have n1_ := Aside0.mk (below_step (by repeat (first | (with_reducible first | exact HB.out | apply below_alloc | apply pw_below_drewN | apply below_drew1) | exact HB.out)) hb); clear HB; have HO327 := n0_; have HB := n1_; clear n0_ n1_; (try clear hb); (try clear hb2); (try clear hk); (try clear hi); (try clear ho0); obtain ⟨Ao171, co171, eo171⟩ := Kd.R_slice HO327.out; subst eo171) | ((with_reducible refine gate_callee (f := 25) rfl ?_); refine goesL_ (some 315) rfl rfl Tryd.func25 (by kernel_rfl) rfl #[.slice Ao171 t325.length co171] rfl (by (try simp only [List.map_toArray, List.map_cons, List.map_nil]); first | done | rfl | (simp only [List.length_drop, List.length_take]; rfl)) ?_; (with_reducible refine (impl_Concat.calls (k8 + 1) _ _ t325 t328 t329 _ ?side1 ?side2 A167.out).mono ?_); (case side1 => repeat (first | exact (Kd.R_reads' HO327.out).2.2 | (with_reducible refine Kd.C_alloc ?_ _) | (with_reducible refine Kd.C_drewN ?_ _) | (with_reducible refine Kd.C_drew ?_))); (case side2 => exact (Kd.R_reads' HO327.out).2.1); rintro e w172 ⟨rfl, hb⟩; refine ⟨_, rfl, ?_⟩; have n0_ := Aside0.mk (Kd.R_below (by (with_reducible repeat (first | apply Kd.R_alloc | apply Kd.R_drewN | apply Kd.R_drew)); exact HO327.out) hb); have n1_ := Aside0.mk (below_step (by repeat (first | (with_reducible first | exact HB.out | apply below_alloc | apply pw_below_drewN | apply below_drew1) | exact HB.out)) hb); clear HO327; clear HB; have HO327 := n0_; have HB := n1_; clear n0_ n1_; (try clear hb); (try clear hb2); (try clear hk); (try clear hi)) | ((with_reducible refine gate_callee (f := 26) rfl ?_); refine goesL_ (some 320) rfl rfl Tryd.func26 (by kernel_rfl) rfl #[.slice Ao171 t325.length co171] rfl (by (try simp only [List.map_toArray, List.map_cons, List.map_nil]); first | done | rfl | (simp only [List.length_drop, List.length_take]; rfl)) ?_; (with_reducible refine (spec_Concat.calls (k8 + 1) _ _ t325 t328 t329 _ ?side1 ?side2 A168.out).mono ?_); (case side1 => repeat (first | exact (Kd.R_reads' HO327.out).2.2 | (with_reducible refine Kd.C_alloc ?_ _) | (with_reducible refine Kd.C_drewN ?_ _) | (with_reducible refine Kd.C_drew ?_))); (case side2 => exact (Kd.R_reads' HO327.out).2.1); rintro e w' ⟨rfl, ⟨nd, rfl⟩⟩; refine ⟨_, rfl, ?_⟩))
    refine part42 A1 c1 l1 r w _ k8 _ _ t325 t328 t329 ?ho ?hb H' _ _ _ _ _ _ _ _ _ _ _ _ _ _ _ _ _ _ _ _ _ _ _ _ _ _ _ _ _ _ _ _ _ _ _ _ _ _ _ _ _ _ _ _ _ _ _ _ _ _ _ _ _ _ _ _ _ _ _ _ _ _ _ _ _ _ _ _ _ _ _ _ _ _ _ _ _ _ _ _ _ _ _ _ _ _ _ _ _ _ _ _ _ _ _ _ _ _ _ _ _ _ _ _ _ _ _ _ _ _ _ _ _ _ _ _ _ _ _ _ _ _ _ _ _ _ _ _ _ _ _ _ _ _ _ _ _ _ _ _ _ _ _ _ _ _ _ _ _ _ _ _ _ _ _ _ _ _ _ _ _ _ _ _ _ _ _ _ _ _ _ _ _ _ _ _ _ _ _ _ _ _ _ _ _ _ _ _ _ _ _ _ _ _ _ _ _ _ _ _ _ _ _ _ _ _ _ _ _ _ _ _ _ _ _ _ _ _ _ _ _ _ _ _ _ _ _ _ _ _ _ _ _ _ _ _ _ _ _ _ _ _ _ _ _ _ _ _ _ _ _ _ _ _ _ _ _ _ _ _ _ _ _ _ _ _ _ _ _ _ _ _ _ _ _ _ _ _ _ _ _ _ _ _ _ _ _ _ _ _ _ _ _ _ _ _ _ _ _ _ _ _ _ _ _ _ _ _ _ _ _ _ _ _ _ _ _ _ _ _ _ _ _ _ _ _ _ _ _ _ _ _ _ _ _ _ _ _ _ _ _ _ _ _ (by assumption) (by assumption)
    case ho => exact (⟨by (with_reducible repeat (first | apply Kd.R_alloc | apply Kd.R_drewN | apply Kd.R_drew)); exact HO327.out⟩)
    case hb => exact (⟨by repeat (first | (with_reducible first | exact HB.out | apply below_alloc | apply pw_below_drewN | apply below_drew1) | exact HB.out)⟩)
set_option maxHeartbeats 16000000 in
set_option maxRecDepth 100000 in
theorem part25 (A1 : Option Addr) (c1 : Nat) (l1 : List Int) (r : Bool) (w wc : World) (kj112 : Nat) (t302 : ByteArray) (t304 : Bool) (t303 t311 : List Int) (v305 v313 : Value) (ok1 ok2 : Nat → Prop) (HR1 : Aside0 (Kd.C (Kd.int .u8) w A1 l1.length l1)) (HC1 : Aside0 (l1.length ≤ c1)) (HO_26 : Aside0 (Kd.R (Kd.int .i64) 3 wc w.heap.size ok1 v305 t303)) (HO_30 : Aside0 (Kd.R (Kd.int .i64) 3 wc w.heap.size ok2 v313 t311)) (HB : Aside0 (Below w.heap.size w wc)) (HA : Aside0 ((if t304 = true then (laws_FnWordsCompared.l0 kj112 l1 t302 t303 t311 0 1) else (laws_FnWordsCompared.j4 kj112 l1)) = some r)) (z0 z2 z3 z4 z5 z6 z7 z8 z9 z10 z11 z12 z13 z14 z15 z16 z17 z18 z19 z20 z21 z22 z23 z24 z28 z29 z31 z32 z33 z34 z35 z36 z37 z38 z39 z40 z41 z42 z43 z44 z45 z46 z47 z48 z49 z50 z51 z52 z53 z54 z55 z56 z57 z58 z59 z60 z61 z62 z63 z64 z65 z66 z67 z68 z69 z70 z71 z72 z73 z74 z75 z76 z77 z78 z79 z80 z81 z82 z83 z84 z85 z86 z87 z88 z89 z90 z91 z92 z93 z94 z95 z96 z97 z98 z99 z100 z101 z102 z103 z104 z105 z106 z107 z108 z109 z110 z111 z112 z113 z114 z115 z116 z117 z118 z119 z120 z121 z122 z123 z124 z125 z126 z127 z128 z129 z130 z131 z132 z133 z134 z135 z136 z137 z138 z139 z140 z141 z142 z143 z144 z145 z146 z147 z148 z149 z150 z151 z152 z153 z154 z155 z156 z157 z158 z159 z160 z161 z162 z163 z164 z165 z166 z167 z168 z169 z170 z171 z172 z173 z174 z175 z176 z177 z178 z179 z180 z181 z182 z183 z184 z185 z186 z187 z188 z189 z190 z191 z192 z193 z194 z195 z196 z197 z198 z199 z200 z201 z202 z203 z204 z205 z206 z207 z208 z209 z210 z211 z212 z213 z214 z215 z216 z217 z218 z219 z220 z221 z222 z223 z224 z225 z226 z227 z228 z229 z230 z231 z232 z233 z234 z235 z236 z237 z238 z239 z240 z241 z242 z243 z244 z245 z246 z247 z248 z249 z250 z251 z252 z253 z254 z255 z256 z257 z258 z259 z260 z261 z262 z263 z264 z265 z266 z267 z268 z269 z270 z271 z272 z273 z274 z275 z276 z277 z278 z279 z280 z281 z282 z283 z284 z285 z286 z287 z288 z289 z290 z291 z292 z293 z294 z295 z296 z297 z298 z299 z300 z301 z302 z303 z304 z305 z306 z307 z308 z309 z310 z311 z312 z313 z314 z315 z316 z317 z318 z319 z320 z321 z322 z323 z324 z325 z326 z327 z328 z329 z330 z331 z332 z333 z334 z335 z336 z337 z338 z339 z340 z341 z342 z343 z344 z345 z346 : Value) (K1 K2 : Act → World → Prop) (h1 : ∀ a w', Code.wp Tryd.prog (cB (cA (cB (cB (cB (cB (cB (cB (cB (cB (cB ((cB ((cB ((cB ((cB ((cB ((cB ((cB ((cB ((cB ((cB ((Tryd.f3.body.getD .skip))))))))))))))))))))))))))))))))) (Exit.then K2 (bodyPost Tryd.prog Tryd.f3 (fun e w' => e = .returned (.bool r) ∧ Below w.heap.size w w'))) a w' → K1 a w') (h2 : ∀ a w', Code.wp Tryd.prog (cB (cB (cB (cB (cB (cB (cB (cB (cB (cB ((cB ((cB ((cB ((cB ((cB ((cB ((cB ((cB ((cB ((cB ((Tryd.f3.body.getD .skip)))))))))))))))))))))))))))))))) (bodyPost Tryd.prog Tryd.f3 (fun e w' => e = .returned (.bool r) ∧ Below w.heap.size w w')) a w' → K2 a w') :
    Code.wp Tryd.prog (cA (cA (cB (cB (cB (cB (cB (cB (cB (cB (cB ((cB ((cB ((cB ((cB ((cB ((cB ((cB ((cB ((cB ((cB ((Tryd.f3.body.getD .skip))))))))))))))))))))))))))))))))) (Exit.then K1 (Exit.then K2 (bodyPost Tryd.prog Tryd.f3 (fun e w' => e = .returned (.bool r) ∧ Below w.heap.size w w')))) { tmps := #[z0, .slice A1 l1.length c1, z2, z3, z4, z5, z6, z7, z8, z9, z10, z11, z12, z13, z14, z15, z16, z17, z18, z19, z20, z21, z22, z23, z24, .string t302, v305, .bool t304, z28, z29, v313, z31, z32, z33, z34, z35, z36, z37, z38, z39, z40, z41, z42, z43, z44, z45, z46, z47, z48, z49, z50, z51, z52, z53, z54, z55, z56, z57, z58, z59, z60, z61, z62, z63, z64, z65, z66, z67, z68, z69, z70, z71, z72, z73, z74, z75, z76, z77, z78, z79, z80, z81, z82, z83, z84, z85, z86, z87, z88, z89, z90, z91, z92, z93, z94, z95, z96, z97, z98, z99, z100, z101, z102, z103, z104, z105, z106, z107, z108, z109, z110, z111, z112, z113, z114, z115, z116, z117, z118, z119, z120, z121, z122, z123, z124, z125, z126, z127, z128, z129, z130, z131, z132, z133, z134, z135, z136, z137, z138, z139, z140, z141, z142, z143, z144, z145, z146, z147, z148, z149, z150, z151, z152, z153, z154, z155, z156, z157, z158, z159, z160, z161, z162, z163, z164, z165, z166, z167, z168, z169, z170, z171, z172, z173, z174, z175, z176, z177, z178, z179, z180, z181, z182, z183, z184, z185, z186, z187, z188, z189, z190, z191, z192, z193, z194, z195, z196, z197, z198, z199, z200, z201, z202, z203, z204, z205, z206, z207, z208, z209, z210, z211, z212, z213, z214, z215, z216, z217, z218, z219, z220, z221, z222, z223, z224, z225, z226, z227, z228, z229, z230, z231, z232, z233, z234, z235, z236, z237, z238, z239, z240, z241, z242, z243, z244, z245, z246, z247, z248, z249, z250, z251, z252, z253, z254, z255, z256, z257, z258, z259, z260, z261, z262, z263, z264, z265, z266, z267, z268, z269, z270, z271, z272, z273, z274, z275, z276, z277, z278, z279, z280, z281, z282, z283, z284, z285, z286, z287, z288, z289, z290, z291, z292, z293, z294, z295, z296, z297, z298, z299, z300, z301, z302, z303, z304, z305, z306, z307, z308, z309, z310, z311, z312, z313, z314, z315, z316, z317, z318, z319, z320, z321, z322, z323, z324, z325, z326, z327, z328, z329, z330, z331, z332, z333, z334, z335, z336, z337, z338, z339, z340, z341, z342, z343, z344, z345, z346], defers := [] } wc := by
  replace h1 := cond_of rfl h1
  replace h2 := seq_of rfl h2
  refine region_of rfl ?_
  have HJ13 : Aside0 (0 ≤ 0) := ⟨Nat.le_refl _⟩
  have HJ48 : Aside0 (0 ≤ 0) := ⟨Nat.le_refl _⟩
  have HJ112 : Aside0 (0 ≤ 0) := ⟨Nat.le_refl _⟩
  have H := HA.out
  clear HA
  by_cases c139 : t304 = true
  · subst c139
    have H1 : (laws_FnWordsCompared.l0 kj112 l1 t302 t303 t311 0 1) = some r := by rw [if_pos rfl] at H; exact H
    clear H
    have H := H1
    clear H1
    have H' := Aside0.mk H
    clear H
    go_wp2
    go_loopg [34, 35] kj112 (fun kq v34 v35 w' => ∃ (x34_4 : Int) (x35_4 : Int), v34 = .int .i64 x34_4 ∧ v35 = .int .i64 x35_4 ∧ Aside0 (laws_FnWordsCompared.l0 kq l1 t302 t303 t311 x34_4 x35_4 = some r) ∧ Aside0 (kq ≤ kj112) ∧ Aside0 (Kd.R (Kd.int .i64) 3 w' w.heap.size ok1 v305 t303) ∧ Aside0 (Kd.R (Kd.int .i64) 3 w' w.heap.size ok2 v313 t311) ∧ Aside0 (Below w.heap.size w w'))
    case atStart => exact ⟨(0), (1), (by first | rfl | (simp; done) | (simp [*]; done) | (simp only [IntWalk.i64_left]; done) | (simp [IntWalk.i64_left]; done) | (simp [*, IntWalk.i64_left]; done)), (by first | rfl | (simp; done) | (simp [*]; done) | (simp only [IntWalk.i64_left]; done) | (simp [IntWalk.i64_left]; done) | (simp [*, IntWalk.i64_left]; done)), H', ⟨Nat.le_refl _⟩, ⟨by (with_reducible repeat (first | apply Kd.R_alloc | apply Kd.R_drewN | apply Kd.R_drew)); exact HO_26.out⟩, ⟨by (with_reducible repeat (first | apply Kd.R_alloc | apply Kd.R_drewN | apply Kd.R_drew)); exact HO_30.out⟩, ⟨by repeat (first | (with_reducible first | exact HB.out | apply below_alloc | apply pw_below_drewN | apply below_drew1) | exact HB.out)⟩⟩
    case round =>
      clear H'
      try clear c1
      try clear c2
      try clear p2
      try clear c3
      try clear c4
      try clear c5
      try clear c6
      try clear c7
      try clear c8
      try clear c9
      try clear c10
      try clear c11
      try clear c12
      try clear c13
      try clear c17
      try clear c18
      try clear c19
      try clear c20
      try clear c21
      try clear c21b0
      try clear c21b1
      try clear c21b2
      try clear c22
      try clear c22b0
      try clear c22b1
      try clear c22b2
      try clear c23
      try clear c23b0
      try clear c23b1
      try clear c23b2
      try clear c24
      try clear c24b0
      try clear c24b1
      try clear c24b2
      try clear c25
      try clear c25b0
      try clear c25b1
      try clear c25b2
      try clear c26
      try clear c26b0
      try clear c26b1
      try clear c27
      try clear c27b0
      try clear c27b1
      try clear c27b2
      try clear c28
      try clear c28b0
      try clear c28b1
      try clear c28b2
      try clear c29
      try clear c29b0
      try clear c29b1
      try clear c29b2
      try clear c30
      try clear c30b0
      try clear c30b1
      try clear c30b2
      try clear c32
      try clear c34
      try clear c34b0
      try clear c34b1
      try clear c34b2
      try clear c42
      try clear c42b0
      try clear c42b1
      try clear c42b2
      try clear c48
      try clear c50
      try clear c52
      try clear c53
      try clear c54
      try clear c57
      try clear c57b0
      try clear c57b1
      try clear c57b2
      try clear c59
      try clear c59b0
      try clear c59b1
      try clear c59b2
      try clear c61
      try clear c62
      try clear c63
      try clear c63b0
      try clear c63b1
      try clear c66
      try clear c67
      try clear c67b0
      try clear c67b1
      try clear c72
      try clear c74
      try clear c74b0
      try clear c74b1
      try clear c74b2
      try clear c76
      try clear c76b0
      try clear c76b1
      try clear c76b2
      try clear c78
      try clear c79
      try clear c80
      try clear c80b0
      try clear c80b1
      try clear c83
      try clear c84
      try clear c84b0
      try clear c84b1
      try clear c89
      try clear c89b0
      try clear c89b1
      try clear c91
      try clear c91b0
      try clear c91b1
      try clear c91b2
      try clear c93
      try clear c93b0
      try clear c93b1
      try clear c93b2
      try clear c95
      try clear c96
      try clear c97
      try clear c97b0
      try clear c97b1
      try clear c100
      try clear c101
      try clear c101b0
      try clear c101b1
      try clear c119
      try clear c119b0
      try clear c119b1
      try clear c119b2
      try clear c121
      try clear c122
      try clear c122b0
      try clear c122b1
      try clear c122b2
      try clear c126
      try clear c137
      try clear c139
      try clear p2
      obtain ⟨x34_4, x35_4, rfl, rfl, HA, HK4, HO_26, HO_30, HB⟩ := hrel
      cases gk with
      | zero => exact absurd HA.out (by simp [laws_FnWordsCompared.l0])
      | succ k4 =>
        have H := HA.out
        clear HA
        simp only [laws_FnWordsCompared.l0] at H
        by_cases c140 : x35_4 < (t302.size : Int)
        · rw [if_pos c140] at H
          have c140b0 : decide (x35_4 < (t302.size : Int)) = true := decide_eq_true c140
          clear c140
          (first | rw [c140b0] | (simp only [i64_w, i32_w]; rw [c140b0]) | skip)
          by_cases c141 : 0 ≤ x35_4
          · rw [if_pos c141] at H
            have c141b0 := eq_true c141
            have c141b1 : decide (0 ≤ x35_4) = true := decide_eq_true c141
            clear c141
            by_cases c142 : x35_4 ≤ (t302.size : Int)
            · rw [if_pos c142] at H
              have c142b0 := eq_true c142
              have c142b1 : decide (x35_4 ≤ (t302.size : Int)) = true := decide_eq_true c142
              clear c142
              replace H := Option.bind_eq_some_iff.mp H
              obtain ⟨⟨t322, t323⟩, A1430, H⟩ := H
              replace H : (if t323 = true then (if t322 = true then (if x34_4 ≥ (t303.length : Int) then (some false) else (if 0 ≤ x34_4 then (if x34_4 < (t303.length : Int) then (if (rd t303 x34_4) = x35_4 then (laws_FnWordsCompared.l0 k4 l1 t302 t303 t311 (wrap64 (x34_4 + 1)) (wrap64 (x35_4 + 1))) else (some false)) else (none)) else (none))) else (laws_FnWordsCompared.l0 k4 l1 t302 t303 t311 x34_4 (wrap64 (x35_4 + 1)))) else (some false)) = some r := H
              have A143 := Aside0.mk A1430
              clear A1430
              by_cases c144 : t323 = true
              · subst c144
                have H1 : (if t322 = true then (if x34_4 ≥ (t303.length : Int) then (some false) else (if 0 ≤ x34_4 then (if x34_4 < (t303.length : Int) then (if (rd t303 x34_4) = x35_4 then (laws_FnWordsCompared.l0 k4 l1 t302 t303 t311 (wrap64 (x34_4 + 1)) (wrap64 (x35_4 + 1))) else (some false)) else (none)) else (none))) else (laws_FnWordsCompared.l0 k4 l1 t302 t303 t311 x34_4 (wrap64 (x35_4 + 1)))) = some r := by rw [if_pos rfl] at H; exact H
                clear H
                have H := H1
                clear H1
                by_cases c145 : t322 = true
                · subst c145
                  have H1 : (if x34_4 ≥ (t303.length : Int) then (some false) else (if 0 ≤ x34_4 then (if x34_4 < (t303.length : Int) then (if (rd t303 x34_4) = x35_4 then (laws_FnWordsCompared.l0 k4 l1 t302 t303 t311 (wrap64 (x34_4 + 1)) (wrap64 (x35_4 + 1))) else (some false)) else (none)) else (none))) = some r := by rw [if_pos rfl] at H; exact H
                  clear H
                  have H := H1
                  clear H1
                  by_cases c146 : x34_4 ≥ (t303.length : Int)
                  · rw [if_pos c146] at H
                    have c146b0 : decide ((t303.length : Int) ≤ x34_4) = true := decide_eq_true c146
                    clear c146
                    obtain rfl := Option.some.inj H
                    go_wp2_with (first | ((with_reducible refine gate_callee (f := 8) rfl ?_); refine goesL_ (some 280) rfl rfl Tryd.func8 (by kernel_rfl) rfl #[.string t302, .string (t302.extract 0 (x35_4 : Int).toNat)] rfl (by (try simp only [List.map_toArray, List.map_cons, List.map_nil]); first | done | rfl | (simp only [List.length_drop, List.length_take]; rfl)) ?_; (with_reducible refine (impl_Ends.calls t302 (t302.extract 0 (x35_4 : Int).toNat) true true _ A143.out).mono ?_); rintro e w147 ⟨rfl, hb⟩; refine ⟨_, rfl, ?_⟩; have n0_ := Aside0.mk (Kd.R_below (by (with_reducible repeat (first | apply Kd.R_alloc | apply Kd.R_drewN | apply Kd.R_drew)); exact HO_26.out) hb); have n1_ := Aside0.mk (Kd.R_below (by (with_reducible repeat (first | apply Kd.R_alloc | apply Kd.R_drewN | apply Kd.R_drew)); exact HO_30.out) hb); have n2_ := Aside0.mk (below_step (by repeat (first | (with_reducible first | exact HB.out | apply below_alloc | apply pw_below_drewN | apply below_drew1) | exact HB.out)) hb); clear HO_26; clear HO_30; clear HB; have HO_26 := n0_; have HO_30 := n1_; have HB := n2_; clear n0_ n1_ n2_; (try clear hb); (try clear hb2); (try clear hk); (try clear hi); obtain ⟨Ao148, co148, eo148⟩ := Kd.R_slice HO_26.out; subst eo148))
                    go_ret
                    exact ⟨by first | rfl | (simp [errW_none, errW_some] <;> rfl) | (simp [*, errW_none, errW_some] <;> rfl; done) | (generalize ByteArray.toList _ = q_; cases q_ <;> rfl), by repeat (first | (with_reducible first | exact HB.out | apply below_alloc | apply pw_below_drewN | apply below_drew1) | exact HB.out)⟩
                  · rw [if_neg c146] at H
                    have c146b0 : decide ((t303.length : Int) ≤ x34_4) = false := decide_eq_false c146
                    clear c146
                    by_cases c149 : 0 ≤ x34_4
                    · rw [if_pos c149] at H
                      have c149b0 : decide (0 ≤ x34_4) = true := decide_eq_true c149
                      clear c149
                      by_cases c150 : x34_4 < (t303.length : Int)
                      · rw [if_pos c150] at H
                        have c150b0 : decide (x34_4 < (t303.length : Int)) = true := decide_eq_true c150
                        clear c150
                        by_cases c151 : (rd t303 x34_4) = x35_4
                        · rw [if_pos c151] at H
                          have c151b0 : ((rd t303 x34_4) == x35_4) = true := beq_iff_eq.mpr c151
                          have c151b1 : ((rd t303 x34_4) != x35_4) = false := bne_eq_false_iff_eq.mpr c151
                          clear c151
                          have H' := Aside0.mk H
                          clear H
                          go_wp2_with (first | ((with_reducible refine gate_callee (f := 8) rfl ?_); refine goesL_ (some 280) rfl rfl Tryd.func8 (by kernel_rfl) rfl #[.string t302, .string (t302.extract 0 (x35_4 : Int).toNat)] rfl (by (try simp only [List.map_toArray, List.map_cons, List.map_nil]); first | done | rfl | (simp only [List.length_drop, List.length_take]; rfl)) ?_; (with_reducible refine (impl_Ends.calls t302 (t302.extract 0 (x35_4 : Int).toNat) true true _ A143.out).mono ?_); rintro e w152 ⟨rfl, hb⟩; refine ⟨_, rfl, ?_⟩; have n0_ := Aside0.mk (Kd.R_below (by (with_reducible repeat (first | apply Kd.R_alloc | apply Kd.R_drewN | apply Kd.R_drew)); exact HO_26.out) hb); have n1_ := Aside0.mk (Kd.R_below (by (with_reducible repeat (first | apply Kd.R_alloc | apply Kd.R_drewN | apply Kd.R_drew)); exact HO_30.out) hb); have n2_ := Aside0.mk (below_step (by repeat (first | (with_reducible first | exact HB.out | apply below_alloc | apply pw_below_drewN | apply below_drew1) | exact HB.out)) hb); clear HO_26; clear HO_30; clear HB; have HO_26 := n0_; have HO_30 := n1_; have HB := n2_; clear n0_ n1_ n2_; (try clear hb); (try clear hb2); (try clear hk); (try clear hi); obtain ⟨Ao153, co153, eo153⟩ := Kd.R_slice HO_26.out; subst eo153; have p324 : 0 ≤ (x34_4 : Int) := of_decide_eq_true (by first | (with_reducible assumption) | assumption); have q324 : x34_4 < (t303.length : Int) := of_decide_eq_true (by first | (with_reducible assumption) | assumption); obtain ⟨ad324, e324, hx324_0⟩ := Kd.at_int (Kd.R_reads' HO_26.out).2.2 x34_4 p324 q324; cases e324; replace p324 := eq_true p324; replace q324 := eq_true q324))
                          go_roundg k4
                          case measure => have := HJ13.out; have := HJ48.out; have := HJ112.out; have := HK4.out; omega
                          case rel => exact ⟨(wrap64 (x34_4 + 1)), (wrap64 (x35_4 + 1)), (by first | rfl | (simp; done) | (simp [*]; done) | (simp only [IntWalk.i64_left]; done) | (simp [IntWalk.i64_left]; done) | (simp [*, IntWalk.i64_left]; done)), (by first | rfl | (simp; done) | (simp [*]; done) | (simp only [IntWalk.i64_left]; done) | (simp [IntWalk.i64_left]; done) | (simp [*, IntWalk.i64_left]; done)), H', ⟨by have := HJ13.out; have := HJ48.out; have := HJ112.out; have := HK4.out; omega⟩, ⟨by (with_reducible repeat (first | apply Kd.R_alloc | apply Kd.R_drewN | apply Kd.R_drew)); exact HO_26.out⟩, ⟨by (with_reducible repeat (first | apply Kd.R_alloc | apply Kd.R_drewN | apply Kd.R_drew)); exact HO_30.out⟩, ⟨by repeat (first | (with_reducible first | exact HB.out | apply below_alloc | apply pw_below_drewN | apply below_drew1) | exact HB.out)⟩⟩
                        · rw [if_neg c151] at H
                          have c151b0 : ((rd t303 x34_4) == x35_4) = false := beq_eq_false_iff_ne.mpr c151
                          have c151b1 : ((rd t303 x34_4) != x35_4) = true := bne_iff_ne.mpr c151
                          obtain rfl := Option.some.inj H
                          go_wp2_with (first | ((with_reducible refine gate_callee (f := 8) rfl ?_); refine goesL_ (some 280) rfl rfl Tryd.func8 (by kernel_rfl) rfl #[.string t302, .string (t302.extract 0 (x35_4 : Int).toNat)] rfl (by (try simp only [List.map_toArray, List.map_cons, List.map_nil]); first | done | rfl | (simp only [List.length_drop, List.length_take]; rfl)) ?_; (with_reducible refine (impl_Ends.calls t302 (t302.extract 0 (x35_4 : Int).toNat) true true _ A143.out).mono ?_); rintro e w154 ⟨rfl, hb⟩; refine ⟨_, rfl, ?_⟩; have n0_ := Aside0.mk (Kd.R_below (by (with_reducible repeat (first | apply Kd.R_alloc | apply Kd.R_drewN | apply Kd.R_drew)); exact HO_26.out) hb); have n1_ := Aside0.mk (Kd.R_below (by (with_reducible repeat (first | apply Kd.R_alloc | apply Kd.R_drewN | apply Kd.R_drew)); exact HO_30.out) hb); have n2_ := Aside0.mk (below_step (by repeat (first | (with_reducible first | exact HB.out | apply below_alloc | apply pw_below_drewN | apply below_drew1) | exact HB.out)) hb); clear HO_26; clear HO_30; clear HB; have HO_26 := n0_; have HO_30 := n1_; have HB := n2_; clear n0_ n1_ n2_; (try clear hb); (try clear hb2); (try clear hk); (try clear hi); obtain ⟨Ao155, co155, eo155⟩ := Kd.R_slice HO_26.out; subst eo155; have p324 : 0 ≤ (x34_4 : Int) := of_decide_eq_true (by first | (with_reducible assumption) | assumption); have q324 : x34_4 < (t303.length : Int) := of_decide_eq_true (by first | (with_reducible assumption) | assumption); obtain ⟨ad324, e324, hx324_0⟩ := Kd.at_int (Kd.R_reads' HO_26.out).2.2 x34_4 p324 q324; cases e324; replace p324 := eq_true p324; replace q324 := eq_true q324))
                          go_ret
                          exact ⟨by first | rfl | (simp [errW_none, errW_some] <;> rfl) | (simp [*, errW_none, errW_some] <;> rfl; done) | (generalize ByteArray.toList _ = q_; cases q_ <;> rfl), by repeat (first | (with_reducible first | exact HB.out | apply below_alloc | apply pw_below_drewN | apply below_drew1) | exact HB.out)⟩
                      · rw [if_neg c150] at H
                        exact absurd H (by simp)
                    · rw [if_neg c149] at H
                      exact absurd H (by simp)
                · replace c145 := Bool.eq_false_iff.mpr c145
                  subst c145
                  have H1 : (laws_FnWordsCompared.l0 k4 l1 t302 t303 t311 x34_4 (wrap64 (x35_4 + 1))) = some r := by rw [if_neg (show ¬ (false = true) by decide)] at H; exact H
                  clear H
                  have H := H1
                  clear H1
                  have H' := Aside0.mk H
                  clear H
                  go_wp2_with (first | ((with_reducible refine gate_callee (f := 8) rfl ?_); refine goesL_ (some 280) rfl rfl Tryd.func8 (by kernel_rfl) rfl #[.string t302, .string (t302.extract 0 (x35_4 : Int).toNat)] rfl (by (try simp only [List.map_toArray, List.map_cons, List.map_nil]); first | done | rfl | (simp only [List.length_drop, List.length_take]; rfl)) ?_; (with_reducible refine (impl_Ends.calls t302 (t302.extract 0 (x35_4 : Int).toNat) false true _ A143.out).mono ?_); rintro e w156 ⟨rfl, hb⟩; refine ⟨_, rfl, ?_⟩; have n0_ := Aside0.mk (Kd.R_below (by (with_reducible repeat (first | apply Kd.R_alloc | apply Kd.R_drewN | apply Kd.R_drew)); exact HO_26.out) hb); have n1_ := Aside0.mk (Kd.R_below (by (with_reducible repeat (first | apply Kd.R_alloc | apply Kd.R_drewN | apply Kd.R_drew)); exact HO_30.out) hb); have n2_ := Aside0.mk (below_step (by repeat (first | (with_reducible first | exact HB.out | apply below_alloc | apply pw_below_drewN | apply below_drew1) | exact HB.out)) hb); clear HO_26; clear HO_30; clear HB; have HO_26 := n0_; have HO_30 := n1_; have HB := n2_; clear n0_ n1_ n2_; (try clear hb); (try clear hb2); (try clear hk); (try clear hi)))
                  go_roundg k4
                  case measure => have := HJ13.out; have := HJ48.out; have := HJ112.out; have := HK4.out; omega
                  case rel => exact ⟨(x34_4), (wrap64 (x35_4 + 1)), (by first | rfl | (simp; done) | (simp [*]; done) | (simp only [IntWalk.i64_left]; done) | (simp [IntWalk.i64_left]; done) | (simp [*, IntWalk.i64_left]; done)), (by first | rfl | (simp; done) | (simp [*]; done) | (simp only [IntWalk.i64_left]; done) | (simp [IntWalk.i64_left]; done) | (simp [*, IntWalk.i64_left]; done)), H', ⟨by have := HJ13.out; have := HJ48.out; have := HJ112.out; have := HK4.out; omega⟩, ⟨by (with_reducible repeat (first | apply Kd.R_alloc | apply Kd.R_drewN | apply Kd.R_drew)); exact HO_26.out⟩, ⟨by (with_reducible repeat (first | apply Kd.R_alloc | apply Kd.R_drewN | apply Kd.R_drew)); exact HO_30.out⟩, ⟨by repeat (first | (with_reducible first | exact HB.out | apply below_alloc | apply pw_below_drewN | apply below_drew1) | exact HB.out)⟩⟩
              · replace c144 := Bool.eq_false_iff.mpr c144
                subst c144
                have H1 : (some false) = some r := by rw [if_neg (show ¬ (false = true) by decide)] at H; exact H
                clear H
                have H := H1
                clear H1
                obtain rfl := Option.some.inj H
                go_wp2_with (first | ((with_reducible refine gate_callee (f := 8) rfl ?_); refine goesL_ (some 280) rfl rfl Tryd.func8 (by kernel_rfl) rfl #[.string t302, .string (t302.extract 0 (x35_4 : Int).toNat)] rfl (by (try simp only [List.map_toArray, List.map_cons, List.map_nil]); first | done | rfl | (simp only [List.length_drop, List.length_take]; rfl)) ?_; (with_reducible refine (impl_Ends.calls t302 (t302.extract 0 (x35_4 : Int).toNat) t322 false _ A143.out).mono ?_); rintro e w157 ⟨rfl, hb⟩; refine ⟨_, rfl, ?_⟩; have n0_ := Aside0.mk (Kd.R_below (by (with_reducible repeat (first | apply Kd.R_alloc | apply Kd.R_drewN | apply Kd.R_drew)); exact HO_26.out) hb); have n1_ := Aside0.mk (Kd.R_below (by (with_reducible repeat (first | apply Kd.R_alloc | apply Kd.R_drewN | apply Kd.R_drew)); exact HO_30.out) hb); have n2_ := Aside0.mk (below_step (by repeat (first | (with_reducible first | exact HB.out | apply below_alloc | apply pw_below_drewN | apply below_drew1) | exact HB.out)) hb); clear HO_26; clear HO_30; clear HB; have HO_26 := n0_; have HO_30 := n1_; have HB := n2_; clear n0_ n1_ n2_; (try clear hb); (try clear hb2); (try clear hk); (try clear hi)))
                go_ret
                exact ⟨by first | rfl | (simp [errW_none, errW_some] <;> rfl) | (simp [*, errW_none, errW_some] <;> rfl; done) | (generalize ByteArray.toList _ = q_; cases q_ <;> rfl), by repeat (first | (with_reducible first | exact HB.out | apply below_alloc | apply pw_below_drewN | apply below_drew1) | exact HB.out)⟩
            · rw [if_neg c142] at H
              exact absurd H (by simp)
          · rw [if_neg c141] at H
            exact absurd H (by simp)
        · rw [if_neg c140] at H
          have c140b0 : decide (x35_4 < (t302.size : Int)) = false := decide_eq_false c140
          clear c140
          (first | rw [c140b0] | (simp only [i64_w, i32_w]; rw [c140b0]) | skip)
          by_cases c158 : x34_4 = (t303.length : Int)
          · rw [if_pos c158] at H
            have c158b0 : (x34_4 == (t303.length : Int)) = true := beq_iff_eq.mpr c158
            have c158b1 : (x34_4 != (t303.length : Int)) = false := bne_eq_false_iff_eq.mpr c158
            clear c158
            replace H := Option.bind_eq_some_iff.mp H
            obtain ⟨t321, A1590, H⟩ := H
            replace H : (if t321 = (t302.size : Int) then (laws_FnWordsCompared.j4 k4 l1) else (some false)) = some r := H
            have A159 := Aside0.mk A1590
            clear A1590
            by_cases c160 : t321 = (t302.size : Int)
            · rw [if_pos c160] at H
              have c160b0 : (t321 == (t302.size : Int)) = true := beq_iff_eq.mpr c160
              have c160b1 : (t321 != (t302.size : Int)) = false := bne_eq_false_iff_eq.mpr c160
              clear c160
              have H' := Aside0.mk H
              clear H
              obtain ⟨Ao161, co161, eo161⟩ := Kd.R_slice HO_26.out
              subst eo161
              obtain ⟨Ao162, co162, eo162⟩ := Kd.R_slice HO_30.out
              subst eo162
              go_upto_region 39 with (first | (go_at_call 23; (with_reducible refine (laws_ySum.calls k4 _ _ t311 t321 _ ?side1 ?side2 A159.out).mono ?_); (case side1 => repeat (first | exact (Kd.R_reads' HO_30.out).2.2 | (with_reducible refine Kd.C_alloc ?_ _) | (with_reducible refine Kd.C_drewN ?_ _) | (with_reducible refine Kd.C_drew ?_))); (case side2 => exact (Kd.R_reads' HO_30.out).2.1); rintro e w' ⟨rfl, ⟨nd, rfl⟩⟩))
              refine part39 _ A1 c1 l1 r w _ HR1 HC1 ?hb1 H' _ _ _ _ _ _ _ _ _ _ _ _ _ _ _ _ _ _ _ _ _ _ _ _ _ _ _ _ _ _ _ _ _ _ _ _ _ _ _ _ _ _ _ _ _ _ _ _ _ _ _ _ _ _ _ _ _ _ _ _ _ _ _ _ _ _ _ _ _ _ _ _ _ _ _ _ _ _ _ _ _ _ _ _ _ _ _ _ _ _ _ _ _ _ _ _ _ _ _ _ _ _ _ _ _ _ _ _ _ _ _ _ _ _ _ _ _ _ _ _ _ _ _ _ _ _ _ _ _ _ _ _ _ _ _ _ _ _ _ _ _ _ _ _ _ _ _ _ _ _ _ _ _ _ _ _ _ _ _ _ _ _ _ _ _ _ _ _ _ _ _ _ _ _ _ _ _ _ _ _ _ _ _ _ _ _ _ _ _ _ _ _ _ _ _ _ _ _ _ _ _ _ _ _ _ _ _ _ _ _ _ _ _ _ _ _ _ _ _ _ _ _ _ _ _ _ _ _ _ _ _ _ _ _ _ _ _ _ _ _ _ _ _ _ _ _ _ _ _ _ _ _ _ _ _ _ _ _ _ _ _ _ _ _ _ _ _ _ _ _ _ _ _ _ _ _ _ _ _ _ _ _ _ _ _ _ _ _ _ _ _ _ _ _ _ _ _ _ _ _ _ _ _ _ _ _ _ _ _ _ _ _ _ _ _ _ _ _ _ _ _ _ _ _ _ _ _ _ _ _ _ _ _ _ _ _ _ _ _ _ _ _ _ _ _ _ _ (by assumption)
              case hb1 => exact (⟨by repeat (first | (with_reducible first | exact HB.out | apply below_alloc | apply pw_below_drewN | apply below_drew1) | exact HB.out)⟩)
            · rw [if_neg c160] at H
              have c160b0 : (t321 == (t302.size : Int)) = false := beq_eq_false_iff_ne.mpr c160
              have c160b1 : (t321 != (t302.size : Int)) = true := bne_iff_ne.mpr c160
              obtain rfl := Option.some.inj H
              obtain ⟨Ao163, co163, eo163⟩ := Kd.R_slice HO_26.out
              subst eo163
              obtain ⟨Ao164, co164, eo164⟩ := Kd.R_slice HO_30.out
              subst eo164
              go_wp2_with (first | (go_at_call 23; (with_reducible refine (laws_ySum.calls k4 _ _ t311 t321 _ ?side1 ?side2 A159.out).mono ?_); (case side1 => repeat (first | exact (Kd.R_reads' HO_30.out).2.2 | (with_reducible refine Kd.C_alloc ?_ _) | (with_reducible refine Kd.C_drewN ?_ _) | (with_reducible refine Kd.C_drew ?_))); (case side2 => exact (Kd.R_reads' HO_30.out).2.1); rintro e w' ⟨rfl, ⟨nd, rfl⟩⟩))
              go_ret
              exact ⟨by first | rfl | (simp [errW_none, errW_some] <;> rfl) | (simp [*, errW_none, errW_some] <;> rfl; done) | (generalize ByteArray.toList _ = q_; cases q_ <;> rfl), by repeat (first | (with_reducible first | exact HB.out | apply below_alloc | apply pw_below_drewN | apply below_drew1) | exact HB.out)⟩
          · rw [if_neg c158] at H
            have c158b0 : (x34_4 == (t303.length : Int)) = false := beq_eq_false_iff_ne.mpr c158
            have c158b1 : (x34_4 != (t303.length : Int)) = true := bne_iff_ne.mpr c158
            obtain rfl := Option.some.inj H
            obtain ⟨Ao165, co165, eo165⟩ := Kd.R_slice HO_26.out
            subst eo165
            go_wp2
            go_ret
            exact ⟨by first | rfl | (simp [errW_none, errW_some] <;> rfl) | (simp [*, errW_none, errW_some] <;> rfl; done) | (generalize ByteArray.toList _ = q_; cases q_ <;> rfl), by repeat (first | (with_reducible first | exact HB.out | apply below_alloc | apply pw_below_drewN | apply below_drew1) | exact HB.out)⟩
  · replace c139 := Bool.eq_false_iff.mpr c139
    subst c139
    have H1 : (laws_FnWordsCompared.j4 kj112 l1) = some r := by rw [if_neg (show ¬ (false = true) by decide)] at H; exact H
    clear H
    have H := H1
    clear H1
    have H' := Aside0.mk H
    clear H
    go_upto_region 39 with (fail)
    refine part39 _ A1 c1 l1 r w _ HR1 HC1 ?hb2 H' _ _ _ _ _ _ _ _ _ _ _ _ _ _ _ _ _ _ _ _ _ _ _ _ _ _ _ _ _ _ _ _ _ _ _ _ _ _ _ _ _ _ _ _ _ _ _ _ _ _ _ _ _ _ _ _ _ _ _ _ _ _ _ _ _ _ _ _ _ _ _ _ _ _ _ _ _ _ _ _ _ _ _ _ _ _ _ _ _ _ _ _ _ _ _ _ _ _ _ _ _ _ _ _ _ _ _ _ _ _ _ _ _ _ _ _ _ _ _ _ _ _ _ _ _ _ _ _ _ _ _ _ _ _ _ _ _ _ _ _ _ _ _ _ _ _ _ _ _ _ _ _ _ _ _ _ _ _ _ _ _ _ _ _ _ _ _ _ _ _ _ _ _ _ _ _ _ _ _ _ _ _ _ _ _ _ _ _ _ _ _ _ _ _ _ _ _ _ _ _ _ _ _ _ _ _ _ _ _ _ _ _ _ _ _ _ _ _ _ _ _ _ _ _ _ _ _ _ _ _ _ _ _ _ _ _ _ _ _ _ _ _ _ _ _ _ _ _ _ _ _ _ _ _ _ _ _ _ _ _ _ _ _ _ _ _ _ _ _ _ _ _ _ _ _ _ _ _ _ _ _ _ _ _ _ _ _ _ _ _ _ _ _ _ _ _ _ _ _ _ _ _ _ _ _ _ _ _ _ _ _ _ _ _ _ _ _ _ _ _ _ _ _ _ _ _ _ _ _ _ _ _ _ _ _ _ _ _ _ _ _ _ _ _ _ _ _ (by assumption)
    case hb2 => exact (⟨by repeat (first | (with_reducible first | exact HB.out | apply below_alloc | apply pw_below_drewN | apply below_drew1) | exact HB.out)⟩)
set_option maxHeartbeats 16000000 in
set_option maxRecDepth 100000 in
theorem part23 (A1 : Option Addr) (c1 : Nat) (l1 : List Int) (r : Bool) (w wc : World) (kq kj112 : Nat) (t302 : ByteArray) (t304 : Bool) (t303 t307 t311 t315 : List Int) (v305 v309 v313 v317 : Value) (ok1 ok2 ok3 ok4 : Nat → Prop) (HR1 : Aside0 (Kd.C (Kd.int .u8) w A1 l1.length l1)) (HC1 : Aside0 (l1.length ≤ c1)) (HO306 : Aside0 (Kd.R (Kd.int .i64) 3 wc w.heap.size ok1 v305 t303)) (HO310 : Aside0 (Kd.R (Kd.int .i64) 3 wc w.heap.size ok3 v309 t307)) (HO314 : Aside0 (Kd.R (Kd.int .i64) 3 wc w.heap.size ok2 v313 t311)) (HO318 : Aside0 (Kd.R (Kd.int .i64) 3 wc w.heap.size ok4 v317 t315)) (HB : Aside0 (Below w.heap.size w wc)) (A120 : Aside0 (laws_ySame.f kq t303 t307 = some true)) (A125 : Aside0 (laws_ySame.f kq t311 t315 = some true)) (HA : Aside0 ((if t304 = true then (laws_FnWordsCompared.l0 kj112 l1 t302 t303 t311 0 1) else (laws_FnWordsCompared.j4 kj112 l1)) = some r)) (z0 z2 z3 z4 z5 z6 z7 z8 z9 z10 z11 z12 z13 z14 z15 z16 z17 z18 z19 z20 z21 z22 z23 z24 z34 z35 z36 z37 z38 z39 z40 z41 z42 z43 z44 z45 z46 z47 z48 z49 z50 z51 z52 z53 z54 z55 z56 z57 z58 z59 z60 z61 z62 z63 z64 z65 z66 z67 z68 z69 z70 z71 z72 z73 z74 z75 z76 z77 z78 z79 z80 z81 z82 z83 z84 z85 z86 z87 z88 z89 z90 z91 z92 z93 z94 z95 z96 z97 z98 z99 z100 z101 z102 z103 z104 z105 z106 z107 z108 z109 z110 z111 z112 z113 z114 z115 z116 z117 z118 z119 z120 z121 z122 z123 z124 z125 z126 z127 z128 z129 z130 z131 z132 z133 z134 z135 z136 z137 z138 z139 z140 z141 z142 z143 z144 z145 z146 z147 z148 z149 z150 z151 z152 z153 z154 z155 z156 z157 z158 z159 z160 z161 z162 z163 z164 z165 z166 z167 z168 z169 z170 z171 z172 z173 z174 z175 z176 z177 z178 z179 z180 z181 z182 z183 z184 z185 z186 z187 z188 z189 z190 z191 z192 z193 z194 z195 z196 z197 z198 z199 z200 z201 z202 z203 z204 z205 z206 z207 z208 z209 z210 z211 z212 z213 z214 z215 z216 z217 z218 z219 z220 z221 z222 z223 z224 z225 z226 z227 z228 z229 z230 z231 z232 z233 z234 z235 z236 z237 z238 z239 z240 z241 z242 z243 z244 z245 z246 z247 z248 z249 z250 z251 z252 z253 z254 z255 z256 z257 z258 z259 z260 z261 z262 z263 z264 z265 z266 z267 z268 z269 z270 z271 z272 z273 z274 z275 z276 z277 z278 z279 z280 z281 z282 z283 z284 z285 z286 z287 z288 z289 z290 z291 z292 z293 z294 z295 z296 z297 z298 z299 z300 z301 z302 z303 z304 z305 z306 z307 z308 z309 z310 z311 z312 z313 z314 z315 z316 z317 z318 z319 z320 z321 z322 z323 z324 z325 z326 z327 z328 z329 z330 z331 z332 z333 z334 z335 z336 z337 z338 z339 z340 z341 z342 z343 z344 z345 z346 : Value) (K1 K2 : Act → World → Prop) (h1 : ∀ a w', Code.wp Tryd.prog (cB (cA (cB (cB (cB (cB (cB (cB (cB (cB ((cB ((cB ((cB ((cB ((cB ((cB ((cB ((cB ((cB ((cB ((Tryd.f3.body.getD .skip)))))))))))))))))))))))))))))))) (Exit.then K2 (bodyPost Tryd.prog Tryd.f3 (fun e w' => e = .returned (.bool r) ∧ Below w.heap.size w w'))) a w' → K1 a w') (h2 : ∀ a w', Code.wp Tryd.prog (cB (cB (cB (cB (cB (cB (cB (cB (cB ((cB ((cB ((cB ((cB ((cB ((cB ((cB ((cB ((cB ((cB ((Tryd.f3.body.getD .skip))))))))))))))))))))))))))))))) (bodyPost Tryd.prog Tryd.f3 (fun e w' => e = .returned (.bool r) ∧ Below w.heap.size w w')) a w' → K2 a w') :
    Code.wp Tryd.prog (cA (cA (cB (cB (cB (cB (cB (cB (cB (cB ((cB ((cB ((cB ((cB ((cB ((cB ((cB ((cB ((cB ((cB ((Tryd.f3.body.getD .skip)))))))))))))))))))))))))))))))) (Exit.then K1 (Exit.then K2 (bodyPost Tryd.prog Tryd.f3 (fun e w' => e = .returned (.bool r) ∧ Below w.heap.size w w')))) { tmps := #[z0, .slice A1 l1.length c1, z2, z3, z4, z5, z6, z7, z8, z9, z10, z11, z12, z13, z14, z15, z16, z17, z18, z19, z20, z21, z22, z23, z24, .string t302, v305, .bool t304, v309, .bool t304, v313, .bool t304, v317, .bool t304, z34, z35, z36, z37, z38, z39, z40, z41, z42, z43, z44, z45, z46, z47, z48, z49, z50, z51, z52, z53, z54, z55, z56, z57, z58, z59, z60, z61, z62, z63, z64, z65, z66, z67, z68, z69, z70, z71, z72, z73, z74, z75, z76, z77, z78, z79, z80, z81, z82, z83, z84, z85, z86, z87, z88, z89, z90, z91, z92, z93, z94, z95, z96, z97, z98, z99, z100, z101, z102, z103, z104, z105, z106, z107, z108, z109, z110, z111, z112, z113, z114, z115, z116, z117, z118, z119, z120, z121, z122, z123, z124, z125, z126, z127, z128, z129, z130, z131, z132, z133, z134, z135, z136, z137, z138, z139, z140, z141, z142, z143, z144, z145, z146, z147, z148, z149, z150, z151, z152, z153, z154, z155, z156, z157, z158, z159, z160, z161, z162, z163, z164, z165, z166, z167, z168, z169, z170, z171, z172, z173, z174, z175, z176, z177, z178, z179, z180, z181, z182, z183, z184, z185, z186, z187, z188, z189, z190, z191, z192, z193, z194, z195, z196, z197, z198, z199, z200, z201, z202, z203, z204, z205, z206, z207, z208, z209, z210, z211, z212, z213, z214, z215, z216, z217, z218, z219, z220, z221, z222, z223, z224, z225, z226, z227, z228, z229, z230, z231, z232, z233, z234, z235, z236, z237, z238, z239, z240, z241, z242, z243, z244, z245, z246, z247, z248, z249, z250, z251, z252, z253, z254, z255, z256, z257, z258, z259, z260, z261, z262, z263, z264, z265, z266, z267, z268, z269, z270, z271, z272, z273, z274, z275, z276, z277, z278, z279, z280, z281, z282, z283, z284, z285, z286, z287, z288, z289, z290, z291, z292, z293, z294, z295, z296, z297, z298, z299, z300, z301, z302, z303, z304, z305, z306, z307, z308, z309, z310, z311, z312, z313, z314, z315, z316, z317, z318, z319, z320, z321, z322, z323, z324, z325, z326, z327, z328, z329, z330, z331, z332, z333, z334, z335, z336, z337, z338, z339, z340, z341, z342, z343, z344, z345, z346], defers := [] } wc := by
  replace h1 := cond_of rfl h1
  replace h2 := seq_of rfl h2
  refine region_of rfl ?_
  obtain ⟨Ao1, co1, eo1⟩ := Kd.R_slice HO306.out
  subst eo1
  obtain ⟨Ao2, co2, eo2⟩ := Kd.R_slice HO310.out
  subst eo2
  obtain ⟨Ao3, co3, eo3⟩ := Kd.R_slice HO314.out
  subst eo3
  obtain ⟨Ao4, co4, eo4⟩ := Kd.R_slice HO318.out
  subst eo4
  go_upto_region 25 with (first | (go_at_call 22; (with_reducible refine (laws_ySame.calls kq _ _ t303 _ _ t307 true _ ?side1 ?side2 ?side3 ?side4 A120.out).mono ?_); (case side1 => repeat (first | exact (Kd.R_reads' HO306.out).2.2 | (with_reducible refine Kd.C_alloc ?_ _) | (with_reducible refine Kd.C_drewN ?_ _) | (with_reducible refine Kd.C_drew ?_))); (case side2 => exact (Kd.R_reads' HO306.out).2.1); (case side3 => repeat (first | exact (Kd.R_reads' HO310.out).2.2 | (with_reducible refine Kd.C_alloc ?_ _) | (with_reducible refine Kd.C_drewN ?_ _) | (with_reducible refine Kd.C_drew ?_))); (case side4 => exact (Kd.R_reads' HO310.out).2.1); rintro e w' ⟨rfl, ⟨nd, rfl⟩⟩) | (go_at_call 22; (with_reducible refine (laws_ySame.calls kq _ _ t311 _ _ t315 true _ ?side1 ?side2 ?side3 ?side4 A125.out).mono ?_); (case side1 => repeat (first | exact (Kd.R_reads' HO314.out).2.2 | (with_reducible refine Kd.C_alloc ?_ _) | (with_reducible refine Kd.C_drewN ?_ _) | (with_reducible refine Kd.C_drew ?_))); (case side2 => exact (Kd.R_reads' HO314.out).2.1); (case side3 => repeat (first | exact (Kd.R_reads' HO318.out).2.2 | (with_reducible refine Kd.C_alloc ?_ _) | (with_reducible refine Kd.C_drewN ?_ _) | (with_reducible refine Kd.C_drew ?_))); (case side4 => exact (Kd.R_reads' HO318.out).2.1); rintro e w' ⟨rfl, ⟨nd, rfl⟩⟩))
  refine part25 A1 c1 l1 r w _ kj112 t302 t304 t303 t311 _ _ ok1 ok2 HR1 HC1 ?h26 ?h30 ?hb HA _ _ _ _ _ _ _ _ _ _ _ _ _ _ _ _ _ _ _ _ _ _ _ _ _ _ _ _ _ _ _ _ _ _ _ _ _ _ _ _ _ _ _ _ _ _ _ _ _ _ _ _ _ _ _ _ _ _ _ _ _ _ _ _ _ _ _ _ _ _ _ _ _ _ _ _ _ _ _ _ _ _ _ _ _ _ _ _ _ _ _ _ _ _ _ _ _ _ _ _ _ _ _ _ _ _ _ _ _ _ _ _ _ _ _ _ _ _ _ _ _ _ _ _ _ _ _ _ _ _ _ _ _ _ _ _ _ _ _ _ _ _ _ _ _ _ _ _ _ _ _ _ _ _ _ _ _ _ _ _ _ _ _ _ _ _ _ _ _ _ _ _ _ _ _ _ _ _ _ _ _ _ _ _ _ _ _ _ _ _ _ _ _ _ _ _ _ _ _ _ _ _ _ _ _ _ _ _ _ _ _ _ _ _ _ _ _ _ _ _ _ _ _ _ _ _ _ _ _ _ _ _ _ _ _ _ _ _ _ _ _ _ _ _ _ _ _ _ _ _ _ _ _ _ _ _ _ _ _ _ _ _ _ _ _ _ _ _ _ _ _ _ _ _ _ _ _ _ _ _ _ _ _ _ _ _ _ _ _ _ _ _ _ _ _ _ _ _ _ _ _ _ _ _ _ _ _ _ _ _ _ _ _ _ _ _ _ _ _ _ _ _ _ _ _ _ _ _ _ _ _ _ _ _ _ _ _ _ _ _ _ _ _ _ (by assumption) (by assumption)
  case h26 => exact (⟨by (with_reducible repeat (first | apply Kd.R_alloc | apply Kd.R_drewN | apply Kd.R_drew)); exact HO306.out⟩)
  case h30 => exact (⟨by (with_reducible repeat (first | apply Kd.R_alloc | apply Kd.R_drewN | apply Kd.R_drew)); exact HO314.out⟩)
  case hb => exact (⟨by repeat (first | (with_reducible first | exact HB.out | apply below_alloc | apply pw_below_drewN | apply below_drew1) | exact HB.out)⟩)
set_option maxHeartbeats 16000000 in
set_option maxRecDepth 100000 in
theorem part18 (kj13 kq : Nat) (A1 : Option Addr) (c1 : Nat) (l1 : List Int) (r : Bool) (w wc : World) (HR1 : Aside0 (Kd.C (Kd.int .u8) w A1 l1.length l1)) (HC1 : Aside0 (l1.length ≤ c1)) (HB : Aside0 (Below w.heap.size w wc)) (HA : Aside0 (laws_FnWordsCompared.j1 kq l1 = some r)) (HJ : Aside0 (kq ≤ kj13)) (z0 z2 z3 z4 z5 z6 z7 z8 z9 z10 z11 z12 z13 z14 z15 z16 z17 z18 z19 z20 z21 z22 z23 z24 z25 z26 z27 z28 z29 z30 z31 z32 z33 z34 z35 z36 z37 z38 z39 z40 z41 z42 z43 z44 z45 z46 z47 z48 z49 z50 z51 z52 z53 z54 z55 z56 z57 z58 z59 z60 z61 z62 z63 z64 z65 z66 z67 z68 z69 z70 z71 z72 z73 z74 z75 z76 z77 z78 z79 z80 z81 z82 z83 z84 z85 z86 z87 z88 z89 z90 z91 z92 z93 z94 z95 z96 z97 z98 z99 z100 z101 z102 z103 z104 z105 z106 z107 z108 z109 z110 z111 z112 z113 z114 z115 z116 z117 z118 z119 z120 z121 z122 z123 z124 z125 z126 z127 z128 z129 z130 z131 z132 z133 z134 z135 z136 z137 z138 z139 z140 z141 z142 z143 z144 z145 z146 z147 z148 z149 z150 z151 z152 z153 z154 z155 z156 z157 z158 z159 z160 z161 z162 z163 z164 z165 z166 z167 z168 z169 z170 z171 z172 z173 z174 z175 z176 z177 z178 z179 z180 z181 z182 z183 z184 z185 z186 z187 z188 z189 z190 z191 z192 z193 z194 z195 z196 z197 z198 z199 z200 z201 z202 z203 z204 z205 z206 z207 z208 z209 z210 z211 z212 z213 z214 z215 z216 z217 z218 z219 z220 z221 z222 z223 z224 z225 z226 z227 z228 z229 z230 z231 z232 z233 z234 z235 z236 z237 z238 z239 z240 z241 z242 z243 z244 z245 z246 z247 z248 z249 z250 z251 z252 z253 z254 z255 z256 z257 z258 z259 z260 z261 z262 z263 z264 z265 z266 z267 z268 z269 z270 z271 z272 z273 z274 z275 z276 z277 z278 z279 z280 z281 z282 z283 z284 z285 z286 z287 z288 z289 z290 z291 z292 z293 z294 z295 z296 z297 z298 z299 z300 z301 z302 z303 z304 z305 z306 z307 z308 z309 z310 z311 z312 z313 z314 z315 z316 z317 z318 z319 z320 z321 z322 z323 z324 z325 z326 z327 z328 z329 z330 z331 z332 z333 z334 z335 z336 z337 z338 z339 z340 z341 z342 z343 z344 z345 z346 : Value) (K : Act → World → Prop) (hK : ∀ a w', Code.wp Tryd.prog (cB (cB (cB (cB ((cB ((cB ((cB ((cB ((cB ((cB ((cB ((cB ((cB ((cB ((Tryd.f3.body.getD .skip)))))))))))))))))))))))))) (bodyPost Tryd.prog Tryd.f3 (fun e w' => e = .returned (.bool r) ∧ Below w.heap.size w w')) a w' → K a w') :
    Code.wp Tryd.prog (cA (cB (cB (cB ((cB ((cB ((cB ((cB ((cB ((cB ((cB ((cB ((cB ((cB ((Tryd.f3.body.getD .skip)))))))))))))))))))))))))) (Exit.then K (bodyPost Tryd.prog Tryd.f3 (fun e w' => e = .returned (.bool r) ∧ Below w.heap.size w w'))) { tmps := #[z0, .slice A1 l1.length c1, z2, z3, z4, z5, z6, z7, z8, z9, z10, z11, z12, z13, z14, z15, z16, z17, z18, z19, z20, z21, z22, z23, z24, z25, z26, z27, z28, z29, z30, z31, z32, z33, z34, z35, z36, z37, z38, z39, z40, z41, z42, z43, z44, z45, z46, z47, z48, z49, z50, z51, z52, z53, z54, z55, z56, z57, z58, z59, z60, z61, z62, z63, z64, z65, z66, z67, z68, z69, z70, z71, z72, z73, z74, z75, z76, z77, z78, z79, z80, z81, z82, z83, z84, z85, z86, z87, z88, z89, z90, z91, z92, z93, z94, z95, z96, z97, z98, z99, z100, z101, z102, z103, z104, z105, z106, z107, z108, z109, z110, z111, z112, z113, z114, z115, z116, z117, z118, z119, z120, z121, z122, z123, z124, z125, z126, z127, z128, z129, z130, z131, z132, z133, z134, z135, z136, z137, z138, z139, z140, z141, z142, z143, z144, z145, z146, z147, z148, z149, z150, z151, z152, z153, z154, z155, z156, z157, z158, z159, z160, z161, z162, z163, z164, z165, z166, z167, z168, z169, z170, z171, z172, z173, z174, z175, z176, z177, z178, z179, z180, z181, z182, z183, z184, z185, z186, z187, z188, z189, z190, z191, z192, z193, z194, z195, z196, z197, z198, z199, z200, z201, z202, z203, z204, z205, z206, z207, z208, z209, z210, z211, z212, z213, z214, z215, z216, z217, z218, z219, z220, z221, z222, z223, z224, z225, z226, z227, z228, z229, z230, z231, z232, z233, z234, z235, z236, z237, z238, z239, z240, z241, z242, z243, z244, z245, z246, z247, z248, z249, z250, z251, z252, z253, z254, z255, z256, z257, z258, z259, z260, z261, z262, z263, z264, z265, z266, z267, z268, z269, z270, z271, z272, z273, z274, z275, z276, z277, z278, z279, z280, z281, z282, z283, z284, z285, z286, z287, z288, z289, z290, z291, z292, z293, z294, z295, z296, z297, z298, z299, z300, z301, z302, z303, z304, z305, z306, z307, z308, z309, z310, z311, z312, z313, z314, z315, z316, z317, z318, z319, z320, z321, z322, z323, z324, z325, z326, z327, z328, z329, z330, z331, z332, z333, z334, z335, z336, z337, z338, z339, z340, z341, z342, z343, z344, z345, z346], defers := [] } wc := by
  replace hK := seq_of rfl hK
  refine region_of rfl ?_
  cases kq with
  | zero => exact absurd HA.out (by simp [laws_FnWordsCompared.j1])
  | succ k9 =>
    have H := HA.out
    clear HA HJ
    simp only [laws_FnWordsCompared.j1] at H
    replace H := Option.bind_eq_some_iff.mp H
    obtain ⟨t302, A108, H⟩ := H
    (try simp only at H)
    replace H := Option.bind_eq_some_iff.mp H
    obtain ⟨⟨t303, t304⟩, A109, H⟩ := H
    (try simp only at H)
    replace H := Option.bind_eq_some_iff.mp H
    obtain ⟨⟨t307, t308⟩, A110, H⟩ := H
    (try simp only at H)
    replace H := Option.bind_eq_some_iff.mp H
    obtain ⟨⟨t311, t312⟩, A111, H⟩ := H
    (try simp only at H)
    replace H := Option.bind_eq_some_iff.mp H
    obtain ⟨⟨t315, t316⟩, A112, H⟩ := H
    (try simp only at H)
    replace H := Option.bind_eq_some_iff.mp H
    obtain ⟨t319, A120, H⟩ := H
    (try simp only at H)
    replace H := Option.bind_eq_some_iff.mp H
    obtain ⟨t320, A125, H⟩ := H
    (try simp only at H)
    split at H
    case isFalse => cases H
    rename_i hq
    obtain ⟨e1, e2, e3, e4, e5⟩ := hq
    subst e1 e2 e3 e4 e5
    cases k9 with
    | zero => exact absurd H (by simp [laws_FnWordsCompared.j2])
    | succ k8 =>
    simp only [laws_FnWordsCompared.j2, Bool.false_eq_true, if_false] at H
    have H' := Aside0.mk H
    clear H
    replace A108 := Aside0.mk A108
    replace A109 := Aside0.mk A109
    replace A110 := Aside0.mk A110
    replace A111 := Aside0.mk A111
    replace A112 := Aside0.mk A112
    replace A120 := Aside0.mk A120
    replace A125 := Aside0.mk A125
    go_upto_region 23 with (first | ((with_reducible refine gate_callee (f := 17) rfl ?_); refine goesL_ (some 222) rfl rfl Tryd.func17 (by kernel_rfl) rfl #[.slice A1 l1.length c1] rfl (by (try simp only [List.map_toArray, List.map_cons, List.map_nil]); first | done | rfl | (simp only [List.length_drop, List.length_take]; rfl)) ?_; (with_reducible refine (spec_DrawBordersOf.calls (k8 + 1) _ _ l1 t302 _ ?side1 ?side2 A108.out).mono ?_); (case side1 => repeat (first | exact (Kd.C_below HR1.out HB.out) | (with_reducible refine Kd.C_alloc ?_ _) | (with_reducible refine Kd.C_drewN ?_ _) | (with_reducible refine Kd.C_drew ?_))); (case side2 => exact HC1.out); rintro e w114 ⟨rfl, hb⟩; refine ⟨_, rfl, ?_⟩; have n0_ := Aside0.mk (below_step (by repeat (first | (with_reducible first | exact HB.out | apply below_alloc | apply pw_below_drewN | apply below_drew1) | exact HB.out)) hb); clear HB; have HB := n0_; clear n0_; (try clear hb); (try clear hb2); (try clear hk); (try clear hi)) | ((with_reducible refine gate_callee (f := 18) rfl ?_); refine goesL_ (some 225) rfl rfl Tryd.func18 (by kernel_rfl) rfl #[.string t302] rfl (by (try simp only [List.map_toArray, List.map_cons, List.map_nil]); first | done | rfl | (simp only [List.length_drop, List.length_take]; rfl)) ?_; (with_reducible refine (impl_BordersOf.calls (k8 + 1) t302 t303 t304 _ A109.out).mono ?_); rintro e w115 ⟨v305, rfl, ho0, hb⟩; refine ⟨_, rfl, ?_⟩; have n0_ := Aside0.mk (Kd.R_lower ho0 (below_size (by repeat (first | (with_reducible first | exact HB.out | apply below_alloc | apply pw_below_drewN | apply below_drew1) | exact HB.out)))); have n1_ := Aside0.mk (below_step (by repeat (first | (with_reducible first | exact HB.out | apply below_alloc | apply pw_below_drewN | apply below_drew1) | exact HB.out)) hb); clear HB; have HO306 := n0_; have HB := n1_; clear n0_ n1_; (try clear hb); (try clear hb2); (try clear hk); (try clear hi); (try clear ho0)) | ((with_reducible refine gate_callee (f := 19) rfl ?_); refine goesL_ (some 230) rfl rfl Tryd.func19 (by kernel_rfl) rfl #[.string t302] rfl (by (try simp only [List.map_toArray, List.map_cons, List.map_nil]); first | done | rfl | (simp only [List.length_drop, List.length_take]; rfl)) ?_; (with_reducible refine (spec_BordersOf.calls (k8 + 1) t302 t307 t304 _ A110.out).mono ?_); rintro e w116 ⟨v309, rfl, ho0, hb⟩; refine ⟨_, rfl, ?_⟩; have n0_ := Aside0.mk (Kd.R_elder' (by (with_reducible repeat (first | apply Kd.R_alloc | apply Kd.R_drewN | apply Kd.R_drew)); exact HO306.out) (Kd.R_base ho0) hb); have n1_ := Aside0.mk (Kd.R_lower (Kd.R_new' ho0 (Kd.R_lt (by (with_reducible repeat (first | apply Kd.R_alloc | apply Kd.R_drewN | apply Kd.R_drew)); exact HO306.out))) (below_size (by repeat (first | (with_reducible first | exact HB.out | apply below_alloc | apply pw_below_drewN | apply below_drew1) | exact HB.out)))); have n2_ := Aside0.mk (below_step (by repeat (first | (with_reducible first | exact HB.out | apply below_alloc | apply pw_below_drewN | apply below_drew1) | exact HB.out)) hb); clear HO306; clear HB; have HO306 := n0_; have HO310 := n1_; have HB := n2_; clear n0_ n1_ n2_; (try clear hb); (try clear hb2); (try clear hk); (try clear hi); (try clear ho0)) | ((with_reducible refine gate_callee (f := 20) rfl ?_); refine goesL_ (some 235) rfl rfl Tryd.func20 (by kernel_rfl) rfl #[.string t302] rfl (by (try simp only [List.map_toArray, List.map_cons, List.map_nil]); first | done | rfl | (simp only [List.length_drop, List.length_take]; rfl)) ?_; (with_reducible refine (impl_LettersOf.calls (k8 + 1) t302 t311 t304 _ A111.out).mono ?_); rintro e w117 ⟨v313, rfl, ho0, hb⟩; refine ⟨_, rfl, ?_⟩; have n0_ := Aside0.mk (Kd.R_elder' (by (with_reducible repeat (first | apply Kd.R_alloc | apply Kd.R_drewN | apply Kd.R_drew)); exact HO306.out) (Kd.R_base ho0) hb); have n1_ := Aside0.mk (Kd.R_elder' (by (with_reducible repeat (first | apply Kd.R_alloc | apply Kd.R_drewN | apply Kd.R_drew)); exact HO310.out) (Kd.R_base ho0) hb); have n2_ := Aside0.mk (Kd.R_lower (Kd.R_new' (Kd.R_new' ho0 (Kd.R_lt (by (with_reducible repeat (first | apply Kd.R_alloc | apply Kd.R_drewN | apply Kd.R_drew)); exact HO306.out))) (Kd.R_lt (by (with_reducible repeat (first | apply Kd.R_alloc | apply Kd.R_drewN | apply Kd.R_drew)); exact HO310.out))) (below_size (by repeat (first | (with_reducible first | exact HB.out | apply below_alloc | apply pw_below_drewN | apply below_drew1) | exact HB.out)))); have n3_ := Aside0.mk (below_step (by repeat (first | (with_reducible first | exact HB.out | apply below_alloc | apply pw_below_drewN | apply below_drew1) | exact HB.out)) hb); clear HO306; clear HO310; clear HB; have HO306 := n0_; have HO310 := n1_; have HO314 := n2_; have HB := n3_; clear n0_ n1_ n2_ n3_; (try clear hb); (try clear hb2); (try clear hk); (try clear hi); (try clear ho0)) | ((with_reducible refine gate_callee (f := 21) rfl ?_); refine goesL_ (some 240) rfl rfl Tryd.func21 (by kernel_rfl) rfl #[.string t302] rfl (by (try simp only [List.map_toArray, List.map_cons, List.map_nil]); first | done | rfl | (simp only [List.length_drop, List.length_take]; rfl)) ?_; (with_reducible refine (spec_LettersOf.calls (k8 + 1) t302 t315 t304 _ A112.out).mono ?_); rintro e w118 ⟨v317, rfl, ho0, hb⟩; refine ⟨_, rfl, ?_⟩; have n0_ := Aside0.mk (Kd.R_elder' (by (with_reducible repeat (first | apply Kd.R_alloc | apply Kd.R_drewN | apply Kd.R_drew)); exact HO306.out) (Kd.R_base ho0) hb); have n1_ := Aside0.mk (Kd.R_elder' (by (with_reducible repeat (first | apply Kd.R_alloc | apply Kd.R_drewN | apply Kd.R_drew)); exact HO310.out) (Kd.R_base ho0) hb); have n2_ := Aside0.mk (Kd.R_elder' (by (with_reducible repeat (first | apply Kd.R_alloc | apply Kd.R_drewN | apply Kd.R_drew)); exact HO314.out) (Kd.R_base ho0) hb); have n3_ := Aside0.mk (Kd.R_lower (Kd.R_new' (Kd.R_new' (Kd.R_new' ho0 (Kd.R_lt (by (with_reducible repeat (first | apply Kd.R_alloc | apply Kd.R_drewN | apply Kd.R_drew)); exact HO306.out))) (Kd.R_lt (by (with_reducible repeat (first | apply Kd.R_alloc | apply Kd.R_drewN | apply Kd.R_drew)); exact HO310.out))) (Kd.R_lt (by (with_reducible repeat (first | apply Kd.R_alloc | apply Kd.R_drewN | apply Kd.R_drew)); exact HO314.out))) (below_size (by repeat (first | (with_reducible first | exact HB.out | apply below_alloc | apply pw_below_drewN | apply below_drew1) | exact HB.out)))); have n4_ := Aside0.mk (below_step (by repeat (first | (with_reducible first | exact HB.out | apply below_alloc | apply pw_below_drewN | apply below_drew1) | exact HB.out)) hb); clear HO306; clear HO310; clear HO314; clear HB; have HO306 := n0_; have HO310 := n1_; have HO314 := n2_; have HO318 := n3_; have HB := n4_; clear n0_ n1_ n2_ n3_ n4_; (try clear hb); (try clear hb2); (try clear hk); (try clear hi); (try clear ho0)))
    exact part23 A1 c1 l1 r w _ (k8 + 1) k8 t302 t304 t303 t307 t311 t315 _ _ _ _ _ _ _ _ HR1 HC1 (⟨by (with_reducible repeat (first | apply Kd.R_alloc | apply Kd.R_drewN | apply Kd.R_drew)); exact HO306.out⟩) (⟨by (with_reducible repeat (first | apply Kd.R_alloc | apply Kd.R_drewN | apply Kd.R_drew)); exact HO310.out⟩) (⟨by (with_reducible repeat (first | apply Kd.R_alloc | apply Kd.R_drewN | apply Kd.R_drew)); exact HO314.out⟩) (⟨by (with_reducible repeat (first | apply Kd.R_alloc | apply Kd.R_drewN | apply Kd.R_drew)); exact HO318.out⟩) (⟨by repeat (first | (with_reducible first | exact HB.out | apply below_alloc | apply pw_below_drewN | apply below_drew1) | exact HB.out)⟩) A120 A125 H' _ _ _ _ _ _ _ _ _ _ _ _ _ _ _ _ _ _ _ _ _ _ _ _ _ _ _ _ _ _ _ _ _ _ _ _ _ _ _ _ _ _ _ _ _ _ _ _ _ _ _ _ _ _ _ _ _ _ _ _ _ _ _ _ _ _ _ _ _ _ _ _ _ _ _ _ _ _ _ _ _ _ _ _ _ _ _ _ _ _ _ _ _ _ _ _ _ _ _ _ _ _ _ _ _ _ _ _ _ _ _ _ _ _ _ _ _ _ _ _ _ _ _ _ _ _ _ _ _ _ _ _ _ _ _ _ _ _ _ _ _ _ _ _ _ _ _ _ _ _ _ _ _ _ _ _ _ _ _ _ _ _ _ _ _ _ _ _ _ _ _ _ _ _ _ _ _ _ _ _ _ _ _ _ _ _ _ _ _ _ _ _ _ _ _ _ _ _ _ _ _ _ _ _ _ _ _ _ _ _ _ _ _ _ _ _ _ _ _ _ _ _ _ _ _ _ _ _ _ _ _ _ _ _ _ _ _ _ _ _ _ _ _ _ _ _ _ _ _ _ _ _ _ _ _ _ _ _ _ _ _ _ _ _ _ _ _ _ _ _ _ _ _ _ _ _ _ _ _ _ _ _ _ _ _ _ _ _ _ _ _ _ _ _ _ _ _ _ _ _ _ _ _ _ _ _ _ _ _ _ _ _ _ _ _ _ _ _ _ _ _ _ _ _ _ _ _ _ _ _ _ _ _ _ _ _ _ _ _ (by assumption) (by assumption)
end Go.Proofs.YtahemjedodecgaaDoor.XFnWordsCompared
