-- Written by a program of this session (wip/xprint.py), which follows the kit's print; no kit file.
import Derived.Test.YtfmkhjoelcbnnaaDoorXFnExactCountByLettersx0
import Derived.Test.YtfmkhjoelcbnnaaDoorXFnExactCountByLettersx1
import Derived.Test.YtfmkhjoelcbnnaaDoorXFnExactCountByLettersx2
namespace Go.Proofs.YtfmkhjoelcbnnaaDoor.XFnExactCountByLetters
open Go.RowKit Go.Proofs.YtfmkhjoelcbnnaaDoor.Hand Go.Proofs.YtfmkhjoelcbnnaaDoorW.PrintWords Go.Proofs.YtfmkhjoelcbnnaaDoorW.PrintLast Go.Proofs.YtfmkhjoelcbnnaaDoorW.PrintMore
attribute [local go_sem] max2_int min2_int max_two min_two max_three min_three max_four min_four   -- for this text's walks alone
set_option linter.unusedVariables false
set_option linter.unusedSimpArgs false

/-! ### spec_CountByLetters: function 7 -/
mutual
def spec_CountByLetters.j0 : Nat → List ByteArray → List Int → Bool → Option (Int × Bool)
  | 0, _, _, _ => none
  | k + 1, x0, x1, x24 => if x24 = true then (some (0, false)) else (if 0 < (x1.length : Int) then (if 1 < (x1.length : Int) then (if 2 < (x1.length : Int) then (if 0 ≤ (wrap64 ((wrap64 ((wrap64 ((rd x1 0) + 1)) * (wrap64 ((rd x1 1) + 1)))) * (wrap64 ((rd x1 2) + 1)))) then (if (wrap64 ((wrap64 ((wrap64 ((rd x1 0) + 1)) * (wrap64 ((rd x1 1) + 1)))) * (wrap64 ((rd x1 2) + 1))) : Int).toNat ≤ 35184372088832 then ((some (List.replicate (wrap64 ((wrap64 ((wrap64 ((rd x1 0) + 1)) * (wrap64 ((rd x1 1) + 1)))) * (wrap64 ((rd x1 2) + 1))) : Int).toNat 0 : List Int)).bind fun y124 => (if 0 < (y124.length : Int) then (spec_CountByLetters.l0 k x0 (wrap64 ((rd x1 1) + 1)) (wrap64 ((rd x1 2) + 1)) (y124.set (0 : Int).toNat 1) 1) else (none))) else (none)) else (none)) else (none)) else (none)) else (none))
def spec_CountByLetters.l0 : Nat → List ByteArray → Int → Int → List Int → Int → Option (Int × Bool)
  | 0, _, _, _, _, _ => none
  | k + 1, x0, x7, x8, x9, x10 => if x10 < (x9.length : Int) then (if (wrap64 (x7 * x8)) = 0 then (none) else (if x8 = 0 then (none) else (if x7 = 0 then (none) else (spec_CountByLetters.l1 k x0 x7 x8 x9 x10 (wrap64 (Int.tdiv x10 (wrap64 (x7 * x8)))) (Int.tmod (wrap64 (Int.tdiv x10 x8)) x7) (Int.tmod x10 x8) x0 (x0.length : Int) 0)))) else (if 0 ≤ (wrap64 ((x9.length : Int) - 1)) then (if (wrap64 ((x9.length : Int) - 1)) < (x9.length : Int) then (some (rd x9 (wrap64 ((x9.length : Int) - 1)), true)) else (none)) else (none))
def spec_CountByLetters.l1 : Nat → List ByteArray → Int → Int → List Int → Int → Int → Int → Int → List ByteArray → Int → Int → Option (Int × Bool)
  | 0, _, _, _, _, _, _, _, _, _, _, _ => none
  | k + 1, x0, x7, x8, x9, x10, x11, x12, x13, x64, x65, x66 => if x66 < x65 then (if 0 ≤ x66 then (if x66 < (x64.length : Int) then ((spec_wdLetters.f k (rdOf ByteArray.empty x64 x66)).bind fun t130 => (if 0 < (t130.length : Int) then (if (rd t130 0) ≤ x11 then (if 1 < (t130.length : Int) then (if (rd t130 1) ≤ x12 then (if 2 < (t130.length : Int) then (if (rd t130 2) ≤ x13 then (if 0 ≤ x10 then (if x10 < (x9.length : Int) then (if 0 ≤ (wrap64 ((wrap64 ((wrap64 ((wrap64 ((wrap64 ((wrap64 (x11 - (rd t130 0))) * x7)) * x8)) + (wrap64 ((wrap64 (x12 - (rd t130 1))) * x8)))) + x13)) - (rd t130 2))) then (if (wrap64 ((wrap64 ((wrap64 ((wrap64 ((wrap64 ((wrap64 (x11 - (rd t130 0))) * x7)) * x8)) + (wrap64 ((wrap64 (x12 - (rd t130 1))) * x8)))) + x13)) - (rd t130 2))) < (x9.length : Int) then (spec_CountByLetters.l1 k x0 x7 x8 (x9.set (x10 : Int).toNat (wrap64 ((rd x9 x10) + (rd x9 (wrap64 ((wrap64 ((wrap64 ((wrap64 ((wrap64 ((wrap64 (x11 - (rd t130 0))) * x7)) * x8)) + (wrap64 ((wrap64 (x12 - (rd t130 1))) * x8)))) + x13)) - (rd t130 2))))))) x10 x11 x12 x13 x64 x65 (wrap64 (x66 + 1))) else (none)) else (none)) else (none)) else (none)) else (spec_CountByLetters.l1 k x0 x7 x8 x9 x10 x11 x12 x13 x64 x65 (wrap64 (x66 + 1)))) else (none)) else (spec_CountByLetters.l1 k x0 x7 x8 x9 x10 x11 x12 x13 x64 x65 (wrap64 (x66 + 1)))) else (none)) else (spec_CountByLetters.l1 k x0 x7 x8 x9 x10 x11 x12 x13 x64 x65 (wrap64 (x66 + 1)))) else (none))) else (none)) else (none)) else (spec_CountByLetters.l0 k x0 x7 x8 x9 (wrap64 (x10 + 1)))
end
def spec_CountByLetters.f (k : Nat) (l0 : List ByteArray) (l1 : List Int) : Option (Int × Bool) := (spec_wdSet.f k l0).bind fun t119 => (if t119 = true then ((spec_leCounts.f k l1).bind fun t120 => (spec_CountByLetters.j0 k l0 l1 (!t120))) else (spec_CountByLetters.j0 k l0 l1 true))
theorem spec_CountByLetters.mono_l : ∀ k, (∀ y0 y1 y2, LeO (spec_CountByLetters.j0 k y0 y1 y2) (spec_CountByLetters.j0 (k + 1) y0 y1 y2)) ∧ (∀ y0 y1 y2 y3 y4, LeO (spec_CountByLetters.l0 k y0 y1 y2 y3 y4) (spec_CountByLetters.l0 (k + 1) y0 y1 y2 y3 y4)) ∧ (∀ y0 y1 y2 y3 y4 y5 y6 y7 y8 y9 y10, LeO (spec_CountByLetters.l1 k y0 y1 y2 y3 y4 y5 y6 y7 y8 y9 y10) (spec_CountByLetters.l1 (k + 1) y0 y1 y2 y3 y4 y5 y6 y7 y8 y9 y10))
  | 0 => ⟨fun _ _ _ r h => by simp [spec_CountByLetters.j0] at h, fun _ _ _ _ _ r h => by simp [spec_CountByLetters.l0] at h, fun _ _ _ _ _ _ _ _ _ _ _ r h => by simp [spec_CountByLetters.l1] at h⟩
  | k + 1 => by
    obtain ⟨ih0, ih1, ih2⟩ := spec_CountByLetters.mono_l k
    refine ⟨?_, ?_, ?_⟩
    · intro y0 y1 y2
      unfold spec_CountByLetters.j0
      repeat' first
      | (with_reducible exact ih0 _ _ _)
      | (with_reducible exact ih1 _ _ _ _ _)
      | (with_reducible exact ih2 _ _ _ _ _ _ _ _ _ _ _)
      | (with_reducible exact spec_leCounts.mono _ _)
      | (with_reducible exact spec_wdLetters.mono _ _)
      | (with_reducible exact spec_wdSet.mono _ _)
      | (with_reducible exact LeO.refl _)
      | (with_reducible exact LeO.none _)
      | (with_reducible refine LeO.ite ?_ ?_)
      | (with_reducible refine LeO.bind ?_ (fun _ => ?_))
      | exact ih0 _ _ _
      | exact ih1 _ _ _ _ _
      | exact ih2 _ _ _ _ _ _ _ _ _ _ _
      | exact spec_leCounts.mono _ _
      | exact spec_wdLetters.mono _ _
      | exact spec_wdSet.mono _ _
      | exact LeO.none _
      | refine LeO.ite ?_ ?_
      | refine LeO.bind ?_ (fun _ => ?_)
    · intro y0 y1 y2 y3 y4
      unfold spec_CountByLetters.l0
      repeat' first
      | (with_reducible exact ih0 _ _ _)
      | (with_reducible exact ih1 _ _ _ _ _)
      | (with_reducible exact ih2 _ _ _ _ _ _ _ _ _ _ _)
      | (with_reducible exact spec_leCounts.mono _ _)
      | (with_reducible exact spec_wdLetters.mono _ _)
      | (with_reducible exact spec_wdSet.mono _ _)
      | (with_reducible exact LeO.refl _)
      | (with_reducible exact LeO.none _)
      | (with_reducible refine LeO.ite ?_ ?_)
      | (with_reducible refine LeO.bind ?_ (fun _ => ?_))
      | exact ih0 _ _ _
      | exact ih1 _ _ _ _ _
      | exact ih2 _ _ _ _ _ _ _ _ _ _ _
      | exact spec_leCounts.mono _ _
      | exact spec_wdLetters.mono _ _
      | exact spec_wdSet.mono _ _
      | exact LeO.none _
      | refine LeO.ite ?_ ?_
      | refine LeO.bind ?_ (fun _ => ?_)
    · intro y0 y1 y2 y3 y4 y5 y6 y7 y8 y9 y10
      unfold spec_CountByLetters.l1
      repeat' first
      | (with_reducible exact ih0 _ _ _)
      | (with_reducible exact ih1 _ _ _ _ _)
      | (with_reducible exact ih2 _ _ _ _ _ _ _ _ _ _ _)
      | (with_reducible exact spec_leCounts.mono _ _)
      | (with_reducible exact spec_wdLetters.mono _ _)
      | (with_reducible exact spec_wdSet.mono _ _)
      | (with_reducible exact LeO.refl _)
      | (with_reducible exact LeO.none _)
      | (with_reducible refine LeO.ite ?_ ?_)
      | (with_reducible refine LeO.bind ?_ (fun _ => ?_))
      | exact ih0 _ _ _
      | exact ih1 _ _ _ _ _
      | exact ih2 _ _ _ _ _ _ _ _ _ _ _
      | exact spec_leCounts.mono _ _
      | exact spec_wdLetters.mono _ _
      | exact spec_wdSet.mono _ _
      | exact LeO.none _
      | refine LeO.ite ?_ ?_
      | refine LeO.bind ?_ (fun _ => ?_)
theorem spec_CountByLetters.mono : ∀ a0 a1 k, LeO (spec_CountByLetters.f k a0 a1) (spec_CountByLetters.f (k + 1) a0 a1) := by
  intro a0 a1 k
  obtain ⟨ih0, ih1, ih2⟩ := spec_CountByLetters.mono_l k
  unfold spec_CountByLetters.f
  repeat' first
      | (with_reducible exact ih0 _ _ _)
      | (with_reducible exact ih1 _ _ _ _ _)
      | (with_reducible exact ih2 _ _ _ _ _ _ _ _ _ _ _)
      | (with_reducible exact spec_leCounts.mono _ _)
      | (with_reducible exact spec_wdLetters.mono _ _)
      | (with_reducible exact spec_wdSet.mono _ _)
      | (with_reducible exact LeO.refl _)
      | (with_reducible exact LeO.none _)
      | (with_reducible refine LeO.ite ?_ ?_)
      | (with_reducible refine LeO.bind ?_ (fun _ => ?_))
      | exact ih0 _ _ _
      | exact ih1 _ _ _ _ _
      | exact ih2 _ _ _ _ _ _ _ _ _ _ _
      | exact spec_leCounts.mono _ _
      | exact spec_wdLetters.mono _ _
      | exact spec_wdSet.mono _ _
      | exact LeO.none _
      | refine LeO.ite ?_ ?_
      | refine LeO.bind ?_ (fun _ => ?_)
def spec_CountByLetters.T3 : Bool × List (List Nat × List Nat) := (true, [([], []), ([0], [0]), ([1], [1]), ([2], [2]), ([], []), ([4], [4]), ([5], [5]), ([6], [6]), ([], []), ([8], [8]), ([9], [9]), ([10], [10]), ([3, 0, 1, 2, 3], [3]), ([7, 12, 0, 1, 2, 3, 4, 5, 6, 7, 12], [7]), ([11, 13, 0, 1, 2, 3, 4, 5, 6, 7, 8, 9, 10, 11, 12, 13], [11])])
def spec_CountByLetters.B3 : List Nat := [0, 1, 3, 7, 0, 16, 48, 112, 0, 256, 768, 1792, 15, 4351, 16383]
theorem spec_CountByLetters.tab3 : rtab .any (opsOf Tryd.f7 3) = spec_CountByLetters.T3 := by kernel_rfl
theorem spec_CountByLetters.bits3 : waitsOk spec_CountByLetters.T3.2 spec_CountByLetters.B3 = true := by kernel_rfl
def spec_CountByLetters.T9 : Bool × List (List Nat × List Nat) := (true, [([], []), ([], []), ([], []), ([1, 2], [1, 2]), ([0, 3], [0, 3]), ([], []), ([], []), ([5, 6], [5, 6]), ([], []), ([7, 8], [7, 8]), ([], []), ([], []), ([10, 11], [10, 11]), ([4, 0, 1, 2, 3, 4], [4]), ([9, 13, 0, 1, 2, 3, 4, 5, 6, 7, 8, 9, 13], [9]), ([12, 14, 0, 1, 2, 3, 4, 5, 6, 7, 8, 9, 10, 11, 12, 13, 14], [12])])
def spec_CountByLetters.B9 : List Nat := [0, 0, 0, 6, 15, 0, 0, 96, 0, 480, 0, 0, 3072, 31, 9215, 32767]
theorem spec_CountByLetters.tab9 : rtab .any (opsOf Tryd.f7 9) = spec_CountByLetters.T9 := by kernel_rfl
theorem spec_CountByLetters.bits9 : waitsOk spec_CountByLetters.T9.2 spec_CountByLetters.B9 = true := by kernel_rfl
def spec_CountByLetters.T15 : Bool × List (List Nat × List Nat) := (true, [([], []), ([], []), ([0, 1], [0, 1]), ([2], [2]), ([], []), ([], []), ([], []), ([6], [6]), ([7], [7]), ([5, 8], [5, 8]), ([], []), ([9, 10], [9, 10]), ([], []), ([11, 12], [11, 12]), ([], []), ([], []), ([15], [15]), ([16], [16]), ([14, 17], [14, 17]), ([], []), ([18, 19], [18, 19]), ([13, 20], [13, 20]), ([], []), ([21, 22], [21, 22]), ([], []), ([24], [24]), ([25], [25]), ([23, 26], [23, 26]), ([4, 27], [4, 27]), ([28], [28]), ([3, 29], [3, 29]), ([0, 1, 0, 1, 2, 3, 4, 5, 6, 7, 8, 9, 10, 11, 12, 13, 14, 15, 16, 17, 18, 19, 20, 21, 22, 23, 24, 25, 26, 27, 28, 29, 30], [0, 1]), ([31, 30, 0, 1, 2, 3, 4, 5, 6, 7, 8, 9, 10, 11, 12, 13, 14, 15, 16, 17, 18, 19, 20, 21, 22, 23, 24, 25, 26, 27, 28, 29, 30], [30, 31])])
def spec_CountByLetters.B15 : List Nat := [0, 0, 3, 7, 0, 0, 0, 64, 192, 480, 0, 2016, 0, 8160, 0, 0, 32768, 98304, 245760, 0, 1032192, 2097120, 0, 8388576, 0, 16777216, 50331648, 134217696, 268435440, 536870896, 1073741823, 2147483647, 4294967295]
theorem spec_CountByLetters.tab15 : rtab .any (opsOf Tryd.f7 15) = spec_CountByLetters.T15 := by kernel_rfl
theorem spec_CountByLetters.bits15 : waitsOk spec_CountByLetters.T15.2 spec_CountByLetters.B15 = true := by kernel_rfl
set_option maxHeartbeats 8000000 in
set_option maxRecDepth 100000 in
theorem spec_CountByLetters.calls (k : Nat) (A0 : Option Addr) (c0 : Nat) (l0 : List ByteArray) (A1 : Option Addr) (c1 : Nat) (l1 : List Int) (r1 : Int) (r2 : Bool) (w : World) (hr0 : Kd.C Kd.string w A0 l0.length l0) (hc0 : l0.length ≤ c0) (hr1 : Kd.C (Kd.int .i64) w A1 l1.length l1) (hc1 : l1.length ≤ c1) (h : spec_CountByLetters.f k l0 l1 = some (r1, r2)) :
    Calls Tryd.prog 7 #[.slice A0 l0.length c0, .slice A1 l1.length c1] w fun e w' => e = .returned (.tuple #[.int .i64 r1, .bool r2]) ∧ Below w.heap.size w w' := by
  have HR0 := Aside0.mk hr0
  have HC0 := Aside0.mk hc0
  clear hr0 hc0
  have HR1 := Aside0.mk hr1
  have HC1 := Aside0.mk hc1
  clear hr1 hc1
  have HB := Aside0.mk (Below.refl w.heap.size w)
  have H : ((spec_wdSet.f k l0).bind fun t119 => (if t119 = true then ((spec_leCounts.f k l1).bind fun t120 => (spec_CountByLetters.j0 k l0 l1 (!t120))) else (spec_CountByLetters.j0 k l0 l1 true))) = some (r1, r2) := h
  clear h
  have HC3 := Aside0.mk H
  clear H
  go_enter Tryd.func7, Tryd.ntmps7
  (try simp only [List.append_eq, List.cons_append, List.nil_append])
  go_upto_region 1 with (fail)
  go_cut [24] (fun v24 wc => ∃ (kq : Nat) (x24_2 : Bool), v24 = .bool x24_2 ∧ Aside0 (spec_CountByLetters.j0 kq l0 l1 x24_2 = some (r1, r2)) ∧ Aside0 (kq ≤ k) ∧ Aside0 (Below w.heap.size w wc))
  case first =>
    have H := HC3.out
    clear HC3
    replace H := Option.bind_eq_some_iff.mp H
    obtain ⟨t119, A40, H⟩ := H
    replace H : (if t119 = true then ((spec_leCounts.f k l1).bind fun t120 => (spec_CountByLetters.j0 k l0 l1 (!t120))) else (spec_CountByLetters.j0 k l0 l1 true)) = some (r1, r2) := H
    have A4 := Aside0.mk A40
    clear A40
    by_cases c5 : t119 = true
    · subst c5
      have H1 : ((spec_leCounts.f k l1).bind fun t120 => (spec_CountByLetters.j0 k l0 l1 (!t120))) = some (r1, r2) := by rw [if_pos rfl] at H; exact H
      clear H
      have H := H1
      clear H1
      replace H := Option.bind_eq_some_iff.mp H
      obtain ⟨t120, A60, H⟩ := H
      replace H : (spec_CountByLetters.j0 k l0 l1 (!t120)) = some (r1, r2) := H
      have A6 := Aside0.mk A60
      clear A60
      have H' := Aside0.mk H
      clear H
      go_wp2_with (first | ((with_reducible refine gate_callee (f := 19) rfl ?_); refine goesL_ (some 18) rfl rfl Tryd.func19 (by kernel_rfl) rfl #[.slice A0 l0.length c0] rfl (by (try simp only [List.map_toArray, List.map_cons, List.map_nil]); first | done | rfl | (simp only [List.length_drop, List.length_take]; rfl)) ?_; (with_reducible refine (spec_wdSet.calls k _ _ l0 true _ ?side1 ?side2 A4.out).mono ?_); (case side1 => repeat (first | exact (Kd.C_below HR0.out HB.out) | (with_reducible refine Kd.C_alloc ?_ _) | (with_reducible refine Kd.C_drewN ?_ _) | (with_reducible refine Kd.C_drew ?_))); (case side2 => exact HC0.out); rintro e w' ⟨rfl, ⟨nd, rfl⟩⟩; refine ⟨_, rfl, ?_⟩) | (go_at_call 20; (with_reducible refine (spec_leCounts.calls k _ _ l1 t120 _ ?side1 ?side2 A6.out).mono ?_); (case side1 => repeat (first | exact (Kd.C_below HR1.out (by repeat (first | (with_reducible first | exact HB.out | apply below_alloc | apply pw_below_drewN | apply below_drew1) | exact HB.out))) | (with_reducible refine Kd.C_alloc ?_ _) | (with_reducible refine Kd.C_drewN ?_ _) | (with_reducible refine Kd.C_drew ?_))); (case side2 => exact HC1.out); rintro e w' ⟨rfl, ⟨nd, rfl⟩⟩))
      go_meet
      case rel => exact ⟨_, (!t120), (by first | rfl | (simp; done) | (simp [*]; done) | (simp only [IntWalk.i64_left]; done) | (simp [IntWalk.i64_left]; done) | (simp [*, IntWalk.i64_left]; done)), H', ⟨by first | omega | exact Nat.le_refl _⟩, ⟨by repeat (first | (with_reducible first | exact HB.out | apply below_alloc | apply pw_below_drewN | apply below_drew1) | exact HB.out)⟩⟩
    · replace c5 := Bool.eq_false_iff.mpr c5
      subst c5
      have H1 : (spec_CountByLetters.j0 k l0 l1 true) = some (r1, r2) := by rw [if_neg (show ¬ (false = true) by decide)] at H; exact H
      clear H
      have H := H1
      clear H1
      have H' := Aside0.mk H
      clear H
      go_wp2_with (first | ((with_reducible refine gate_callee (f := 19) rfl ?_); refine goesL_ (some 18) rfl rfl Tryd.func19 (by kernel_rfl) rfl #[.slice A0 l0.length c0] rfl (by (try simp only [List.map_toArray, List.map_cons, List.map_nil]); first | done | rfl | (simp only [List.length_drop, List.length_take]; rfl)) ?_; (with_reducible refine (spec_wdSet.calls k _ _ l0 false _ ?side1 ?side2 A4.out).mono ?_); (case side1 => repeat (first | exact (Kd.C_below HR0.out HB.out) | (with_reducible refine Kd.C_alloc ?_ _) | (with_reducible refine Kd.C_drewN ?_ _) | (with_reducible refine Kd.C_drew ?_))); (case side2 => exact HC0.out); rintro e w' ⟨rfl, ⟨nd, rfl⟩⟩; refine ⟨_, rfl, ?_⟩))
      go_meet
      case rel => exact ⟨_, (true), (by first | rfl | (simp; done) | (simp [*]; done) | (simp only [IntWalk.i64_left]; done) | (simp [IntWalk.i64_left]; done) | (simp [*, IntWalk.i64_left]; done)), H', ⟨by first | omega | exact Nat.le_refl _⟩, ⟨by repeat (first | (with_reducible first | exact HB.out | apply below_alloc | apply pw_below_drewN | apply below_drew1) | exact HB.out)⟩⟩
  case rest =>
    clear HC3
    try clear c1
    try clear p2
    try clear c5
    obtain ⟨kq, x24_2, rfl, HA, HJ2, HB⟩ := hcut
    cases kq with
    | zero => exact absurd HA.out (by simp [spec_CountByLetters.j0])
    | succ kj2 =>
      have H := HA.out
      clear HA
      simp only [spec_CountByLetters.j0] at H
      by_cases c7 : x24_2 = true
      · subst c7
        have H1 : (some (0, false)) = some (r1, r2) := by rw [if_pos rfl] at H; exact H
        clear H
        have H := H1
        clear H1
        simp only [Option.some.injEq, Prod.mk.injEq] at H
        obtain ⟨rfl, rfl⟩ := H
        go_wp2
        go_ret2
        exact ⟨by first | rfl | (simp [errW_none, errW_some] <;> rfl) | (simp [*, errW_none, errW_some] <;> rfl), by repeat (first | (with_reducible first | exact HB.out | apply below_alloc | apply pw_below_drewN | apply below_drew1) | exact HB.out)⟩
      · replace c7 := Bool.eq_false_iff.mpr c7
        subst c7
        have H1 : (if 0 < (l1.length : Int) then (if 1 < (l1.length : Int) then (if 2 < (l1.length : Int) then (if 0 ≤ (wrap64 ((wrap64 ((wrap64 ((rd l1 0) + 1)) * (wrap64 ((rd l1 1) + 1)))) * (wrap64 ((rd l1 2) + 1)))) then (if (wrap64 ((wrap64 ((wrap64 ((rd l1 0) + 1)) * (wrap64 ((rd l1 1) + 1)))) * (wrap64 ((rd l1 2) + 1))) : Int).toNat ≤ 35184372088832 then ((some (List.replicate (wrap64 ((wrap64 ((wrap64 ((rd l1 0) + 1)) * (wrap64 ((rd l1 1) + 1)))) * (wrap64 ((rd l1 2) + 1))) : Int).toNat 0 : List Int)).bind fun y124 => (if 0 < (y124.length : Int) then (spec_CountByLetters.l0 kj2 l0 (wrap64 ((rd l1 1) + 1)) (wrap64 ((rd l1 2) + 1)) (y124.set (0 : Int).toNat 1) 1) else (none))) else (none)) else (none)) else (none)) else (none)) else (none)) = some (r1, r2) := by rw [if_neg (show ¬ (false = true) by decide)] at H; exact H
        clear H
        have H := H1
        clear H1
        by_cases c8 : 0 < (l1.length : Int)
        · rw [if_pos c8] at H
          have c8b0 : decide (0 < (l1.length : Int)) = true := decide_eq_true c8
          have c8b1 : decide (0 < l1.length) = true := decide_eq_true (by omega)
          clear c8
          by_cases c9 : 1 < (l1.length : Int)
          · rw [if_pos c9] at H
            have c9b0 : decide (1 < (l1.length : Int)) = true := decide_eq_true c9
            have c9b1 : decide (1 < l1.length) = true := decide_eq_true (by omega)
            clear c9
            by_cases c10 : 2 < (l1.length : Int)
            · rw [if_pos c10] at H
              have c10b0 : decide (2 < (l1.length : Int)) = true := decide_eq_true c10
              have c10b1 : decide (2 < l1.length) = true := decide_eq_true (by omega)
              clear c10
              obtain ⟨ji11, hji11⟩ : ∃ j_ : Int, (wrap64 ((wrap64 ((wrap64 ((rd l1 0) + 1)) * (wrap64 ((rd l1 1) + 1)))) * (wrap64 ((rd l1 2) + 1)))) = j_ := ⟨_, rfl⟩
              replace H : (if 0 ≤ (ji11) then (if (ji11 : Int).toNat ≤ 35184372088832 then ((some (List.replicate (ji11 : Int).toNat 0 : List Int)).bind fun y124 => (if 0 < (y124.length : Int) then (spec_CountByLetters.l0 kj2 l0 (wrap64 ((rd l1 1) + 1)) (wrap64 ((rd l1 2) + 1)) (y124.set (0 : Int).toNat 1) 1) else (none))) else (none)) else (none)) = some (r1, r2) := by first | (rw [hji11] at H; exact H) | (simp only [hji11] at H ⊢; exact H)
              have hji11w : (IntKind.i64.wrap ((wrap64 ((wrap64 ((rd l1 0) + 1)) * (wrap64 ((rd l1 1) + 1)))) * (wrap64 ((rd l1 2) + 1)))) = ji11 := (i64_w _).trans hji11
              by_cases c12 : 0 ≤ (ji11)
              · rw [if_pos c12] at H
                have c12b0 := eq_true c12
                have c12b1 : decide (0 ≤ (ji11)) = true := decide_eq_true c12
                clear c12
                by_cases c13 : (ji11 : Int).toNat ≤ 35184372088832
                · rw [if_pos c13] at H
                  have c13b0 := eq_true c13
                  have c13b1 : decide ((ji11 : Int).toNat ≤ 35184372088832) = true := decide_eq_true c13
                  clear c13
                  obtain ⟨y124, hy124⟩ : ∃ y_ : List Int, y_ = (List.replicate (ji11 : Int).toNat 0) := ⟨_, rfl⟩
                  replace H : (if 0 < (y124.length : Int) then (spec_CountByLetters.l0 kj2 l0 (wrap64 ((rd l1 1) + 1)) (wrap64 ((rd l1 2) + 1)) (y124.set (0 : Int).toNat 1) 1) else (none)) = some (r1, r2) := by first | (rw [hy124]; with_reducible exact H) | (have H2_ := (Option.bind_some _ _).symm.trans H; rw [hy124]; with_reducible exact H2_) | (have H2_ := (Option.bind_some _ _).symm.trans H; with_reducible exact H2_) | with_reducible exact H | (rw [hy124]; exact H) | exact H
                  have Ny124 := Aside0.mk hy124
                  clear hy124
                  by_cases c14 : 0 < (y124.length : Int)
                  · rw [if_pos c14] at H
                    have c14b0 : decide (0 < (y124.length : Int)) = true := decide_eq_true c14
                    have c14b1 : decide (0 < y124.length) = true := decide_eq_true (by omega)
                    clear c14
                    obtain ⟨y127, hy127⟩ : ∃ y_ : List Int, y_ = (y124.set (0 : Int).toNat 1) := ⟨_, rfl⟩
                    replace H : (spec_CountByLetters.l0 kj2 l0 (wrap64 ((rd l1 1) + 1)) (wrap64 ((rd l1 2) + 1)) y127 1) = some (r1, r2) := by first | (rw [hy127]; with_reducible exact H) | (have H2_ := (Option.bind_some _ _).symm.trans H; rw [hy127]; with_reducible exact H2_) | (have H2_ := (Option.bind_some _ _).symm.trans H; with_reducible exact H2_) | with_reducible exact H | (rw [hy127]; exact H) | exact H
                    have Ny127 := Aside0.mk hy127
                    clear hy127
                    have H' := Aside0.mk H
                    clear H
                    try go_wp2
                    have n0_ := Aside0.mk (below_drew1 HB.out)
                    clear HB
                    have HB := n0_
                    clear n0_
                    have p121 : 0 ≤ (0 : Int) := (by omega)
                    have q121 : 0 < (l1.length : Int) := of_decide_eq_true (by first | (with_reducible assumption) | assumption)
                    obtain ⟨ad121, e121, hx121_0⟩ := Kd.at_int HR1.out 0 p121 q121
                    have hw121_0 := hx121_0
                    (try rw [show ((0 : Int)).toNat = 0 from rfl] at hw121_0)
                    (try rw [show 0 * 1 = 0 from rfl] at hw121_0)
                    (try rw [Addr.add_zero'] at hw121_0)
                    cases e121
                    have qi121 : (0 < l1.length) = True := eq_true (by omega)
                    (try rw [show ((0 : Int)).toNat = 0 from rfl] at hx121_0)
                    (try rw [Addr.add_zero'] at hx121_0)
                    (try replace hx121_0 := (HB.out.cell (World.block_lt_of_cell? w _ hx121_0)).trans hx121_0)
                    replace p121 := eq_true p121
                    replace q121 := eq_true q121
                    have p122 : 0 ≤ (1 : Int) := (by omega)
                    have q122 : 1 < (l1.length : Int) := of_decide_eq_true (by first | (with_reducible assumption) | assumption)
                    obtain ⟨ad122, e122, hx122_0⟩ := Kd.at_int HR1.out 1 p122 q122
                    have hw122_0 := hx122_0
                    (try rw [show ((1 : Int)).toNat = 1 from rfl] at hw122_0)
                    (try rw [show 1 * 1 = 1 from rfl] at hw122_0)
                    (try simp only [Nat.reduceMul, Nat.reduceEqDiff, Go.Addr.add, ↓reduceIte] at hw122_0)
                    obtain rfl : ad121 = ad122 := (by injection e122)
                    (try simp only [show (1 : Int).toNat = 1 from rfl, Nat.reduceMul, Nat.reduceEqDiff, Go.Addr.add, ↓reduceIte] at hx122_0)
                    have qi122 : (1 < l1.length) = True := eq_true (by omega)
                    (try rw [show ((1 : Int)).toNat = 1 from rfl] at hx122_0)
                    (try replace hx122_0 := (HB.out.cell (World.block_lt_of_cell? w _ hx122_0)).trans hx122_0)
                    replace p122 := eq_true p122
                    replace q122 := eq_true q122
                    have p123 : 0 ≤ (2 : Int) := (by omega)
                    have q123 : 2 < (l1.length : Int) := of_decide_eq_true (by first | (with_reducible assumption) | assumption)
                    obtain ⟨ad123, e123, hx123_0⟩ := Kd.at_int HR1.out 2 p123 q123
                    have hw123_0 := hx123_0
                    (try rw [show ((2 : Int)).toNat = 2 from rfl] at hw123_0)
                    (try rw [show 2 * 1 = 2 from rfl] at hw123_0)
                    (try simp only [Nat.reduceMul, Nat.reduceEqDiff, Go.Addr.add, ↓reduceIte] at hw123_0)
                    obtain rfl : ad121 = ad123 := (by injection e123)
                    (try simp only [show (2 : Int).toNat = 2 from rfl, Nat.reduceMul, Nat.reduceEqDiff, Go.Addr.add, ↓reduceIte] at hx123_0)
                    have qi123 : (2 < l1.length) = True := eq_true (by omega)
                    (try rw [show ((2 : Int)).toNat = 2 from rfl] at hx123_0)
                    (try replace hx123_0 := (HB.out.cell (World.block_lt_of_cell? w _ hx123_0)).trans hx123_0)
                    replace p123 := eq_true p123
                    replace q123 := eq_true q123
                    refine start_ (n := 15) (S := fun w' => w'.cell? ad121 = some (.int .i64 (rd l1 0)) ∧ w'.cell? ⟨ad121.block, ad121.off + 1, none⟩ = some (.int .i64 (rd l1 1)) ∧ w'.cell? ⟨ad121.block, ad121.off + 2, none⟩ = some (.int .i64 (rd l1 2))) (ds := []) #[false, false, false, false, false, false, false, false, false, false, false, false, false, false, false] (by kernel_rfl) rfl rfl ⟨((HB.out.cell (World.block_lt_of_cell? w _ hw121_0)).trans hw121_0), ((HB.out.cell (World.block_lt_of_cell? w _ hw122_0)).trans hw122_0), ((HB.out.cell (World.block_lt_of_cell? w _ hw123_0)).trans hw123_0)⟩ (fun hHeld => ?_); refine with_tabW spec_CountByLetters.tab3 spec_CountByLetters.bits3 (fun HT_ HW_ => ?_)
                    generalize wc.drew = w16 at HB hx121_0 hx122_0 hx123_0 hHeld ⊢
                    refine pure_ (i := 0) (N := some 25) (v := ?_) (a' := ?_) #[true, false, false, false, false, false, false, false, false, false, false, false, false, false, false] rfl rfl (any_of HT_.out (by kernel_rfl)) (fun _ _ _ h => h) (Or.inl ⟨by rfl, ?_⟩) ?_ ?_
                    rotate_left
                    · intro w'
                      go_simp
                      with_reducible rfl
                    rotate_left
                    · simp only [Act.put, List.setIfInBounds_toArray, List.set_cons_zero, List.set_cons_succ, i64_w, i32_w]
                      rfl
                    refine pure_ (i := 1) (N := some 26) (v := ?_) (a' := ?_) #[true, true, false, false, false, false, false, false, false, false, false, false, false, false, false] rfl rfl (any_of HT_.out (by kernel_rfl)) (fun _ _ _ h => h) (Or.inl ⟨by rfl, ?_⟩) ?_ ?_
                    rotate_left
                    · intro w'
                      go_simp
                      with_reducible rfl
                    rotate_left
                    · simp only [Act.put, List.setIfInBounds_toArray, List.set_cons_zero, List.set_cons_succ, i64_w, i32_w]
                      rfl
                    refine pure_ (i := 4) (N := some 29) (v := ?_) (a' := ?_) #[true, true, false, false, true, false, false, false, false, false, false, false, false, false, false] rfl rfl (any_of HT_.out (by kernel_rfl)) (fun _ _ _ h => h) (Or.inl ⟨by rfl, ?_⟩) ?_ ?_
                    rotate_left
                    · intro w'
                      go_simp
                      with_reducible rfl
                    rotate_left
                    · simp only [Act.put, List.setIfInBounds_toArray, List.set_cons_zero, List.set_cons_succ, i64_w, i32_w]
                      rfl
                    refine pure_ (i := 5) (N := some 30) (v := ?_) (a' := ?_) #[true, true, false, false, true, true, false, false, false, false, false, false, false, false, false] rfl rfl (any_of HT_.out (by kernel_rfl)) (fun _ _ _ h => h) (Or.inl ⟨by rfl, ?_⟩) ?_ ?_
                    rotate_left
                    · intro w'
                      go_simp
                      with_reducible rfl
                    rotate_left
                    · simp only [Act.put, List.setIfInBounds_toArray, List.set_cons_zero, List.set_cons_succ, i64_w, i32_w]
                      rfl
                    refine pure_ (i := 8) (N := some 33) (v := ?_) (a' := ?_) #[true, true, false, false, true, true, false, false, true, false, false, false, false, false, false] rfl rfl (any_of HT_.out (by kernel_rfl)) (fun _ _ _ h => h) (Or.inl ⟨by rfl, ?_⟩) ?_ ?_
                    rotate_left
                    · intro w'
                      go_simp
                      with_reducible rfl
                    rotate_left
                    · simp only [Act.put, List.setIfInBounds_toArray, List.set_cons_zero, List.set_cons_succ, i64_w, i32_w]
                      rfl
                    refine pure_ (i := 9) (N := some 34) (v := ?_) (a' := ?_) #[true, true, false, false, true, true, false, false, true, true, false, false, false, false, false] rfl rfl (any_of HT_.out (by kernel_rfl)) (fun _ _ _ h => h) (Or.inl ⟨by rfl, ?_⟩) ?_ ?_
                    rotate_left
                    · intro w'
                      go_simp
                      with_reducible rfl
                    rotate_left
                    · simp only [Act.put, List.setIfInBounds_toArray, List.set_cons_zero, List.set_cons_succ, i64_w, i32_w]
                      rfl
                    refine take_ (i := 2) (N := some 27) (v := ?_) (a' := ?_) #[true, true, true, false, true, true, false, false, true, true, false, false, false, false, false] rfl rfl (take_ofW HT_.out HW_.out (by kernel_rfl)) (fun _ _ _ h => h) (Or.inl ⟨by rfl, ?_⟩) hHeld ?_ ?_
                    rotate_left
                    · rintro w' ⟨s0, s1, s2⟩
                      go_simp
                      with_reducible rfl
                    rotate_left
                    · simp only [Act.put, List.setIfInBounds_toArray, List.set_cons_zero, List.set_cons_succ, i64_w, i32_w]
                      rfl
                    refine pure_ (i := 3) (N := some 28) (v := ?_) (a' := ?_) #[true, true, true, true, true, true, false, false, true, true, false, false, false, false, false] rfl rfl (any_of HT_.out (by kernel_rfl)) (fun _ _ _ h => h) (Or.inl ⟨by rfl, ?_⟩) ?_ ?_
                    rotate_left
                    · intro w'
                      go_simp
                      with_reducible rfl
                    rotate_left
                    · simp only [Act.put, List.setIfInBounds_toArray, List.set_cons_zero, List.set_cons_succ, i64_w, i32_w]
                      rfl
                    refine pure_ (i := 12) (N := some 6) (v := ?_) (a' := ?_) #[true, true, true, true, true, true, false, false, true, true, false, false, true, false, false] rfl rfl (any_of HT_.out (by kernel_rfl)) (fun _ _ _ h => h) (Or.inl ⟨by rfl, ?_⟩) ?_ ?_
                    rotate_left
                    · intro w'
                      go_simp
                      with_reducible rfl
                    rotate_left
                    · simp only [Act.put, List.setIfInBounds_toArray, List.set_cons_zero, List.set_cons_succ, i64_w, i32_w]
                      rfl
                    refine take_ (i := 6) (N := some 31) (v := ?_) (a' := ?_) #[true, true, true, true, true, true, true, false, true, true, false, false, true, false, false] rfl rfl (take_ofW HT_.out HW_.out (by kernel_rfl)) (fun _ _ _ h => h) (Or.inl ⟨by rfl, ?_⟩) hHeld ?_ ?_
                    rotate_left
                    · rintro w' ⟨s0, s1, s2⟩
                      go_simp
                      with_reducible rfl
                    rotate_left
                    · simp only [Act.put, List.setIfInBounds_toArray, List.set_cons_zero, List.set_cons_succ, i64_w, i32_w]
                      rfl
                    refine pure_ (i := 7) (N := some 32) (v := ?_) (a' := ?_) #[true, true, true, true, true, true, true, true, true, true, false, false, true, false, false] rfl rfl (any_of HT_.out (by kernel_rfl)) (fun _ _ _ h => h) (Or.inl ⟨by rfl, ?_⟩) ?_ ?_
                    rotate_left
                    · intro w'
                      go_simp
                      with_reducible rfl
                    rotate_left
                    · simp only [Act.put, List.setIfInBounds_toArray, List.set_cons_zero, List.set_cons_succ, i64_w, i32_w]
                      rfl
                    refine pure_ (i := 13) (N := some 7) (v := ?_) (a' := ?_) #[true, true, true, true, true, true, true, true, true, true, false, false, true, true, false] rfl rfl (any_of HT_.out (by kernel_rfl)) (fun _ _ _ h => h) (Or.inl ⟨by rfl, ?_⟩) ?_ ?_
                    rotate_left
                    · intro w'
                      go_simp
                      with_reducible rfl
                    rotate_left
                    · simp only [Act.put, List.setIfInBounds_toArray, List.set_cons_zero, List.set_cons_succ, i64_w, i32_w]
                      rfl
                    refine take_ (i := 10) (N := some 35) (v := ?_) (a' := ?_) #[true, true, true, true, true, true, true, true, true, true, true, false, true, true, false] rfl rfl (take_ofW HT_.out HW_.out (by kernel_rfl)) (fun _ _ _ h => h) (Or.inl ⟨by rfl, ?_⟩) hHeld ?_ ?_
                    rotate_left
                    · rintro w' ⟨s0, s1, s2⟩
                      go_simp
                      with_reducible rfl
                    rotate_left
                    · simp only [Act.put, List.setIfInBounds_toArray, List.set_cons_zero, List.set_cons_succ, i64_w, i32_w]
                      rfl
                    refine pure_ (i := 11) (N := some 36) (v := ?_) (a' := ?_) #[true, true, true, true, true, true, true, true, true, true, true, true, true, true, false] rfl rfl (any_of HT_.out (by kernel_rfl)) (fun _ _ _ h => h) (Or.inl ⟨by rfl, ?_⟩) ?_ ?_
                    rotate_left
                    · intro w'
                      go_simp
                      with_reducible rfl
                    rotate_left
                    · simp only [Act.put, List.setIfInBounds_toArray, List.set_cons_zero, List.set_cons_succ, i64_w, i32_w]
                      rfl
                    refine pure_ (i := 14) (N := some 8) (v := ?_) (a' := ?_) #[true, true, true, true, true, true, true, true, true, true, true, true, true, true, true] rfl rfl (any_of HT_.out (by kernel_rfl)) (fun _ _ _ h => h) (Or.inl ⟨by rfl, ?_⟩) ?_ ?_
                    rotate_left
                    · intro w'
                      go_simp
                      with_reducible rfl
                    rotate_left
                    · simp only [Act.put, List.setIfInBounds_toArray, List.set_cons_zero, List.set_cons_succ, i64_w, i32_w]
                      rfl
                    refine done_ (done_of HT_.out (by kernel_rfl)) ?_
                    try go_wp2_with (first | ((with_reducible refine gate_dst (N := 42) rfl ?_); refine Kd.R_make (Kd.int .i64) _ 3 rfl (N := 42) rfl 23 _ _ rfl ji11 rfl rfl Tryd.underlying23 (.int .i64 0) 8 info3 rfl (by decide) (by omega) 0 (ok := fun _ => True) (okp := fun _ => True) rfl (fun _ hk => hk) trivial (of_decide_eq_true (by first | (with_reducible assumption) | assumption)) (Nat.le_trans (Nat.mul_le_mul_right _ (of_decide_eq_true (by first | (with_reducible assumption) | assumption) : ji11.toNat ≤ 35184372088832)) (by omega)) (Below.refl _ _) (Nat.le_refl _) ?_; intro v125 w17 ho18 hb hg_ hnew_; clear hg_ hnew_; (first | rw [← Ny124.out] at ho18 | (simp only [Int.reduceToNat] at ho18; rw [← Ny124.out] at ho18)); have n0_ := Aside0.mk (Kd.R_lower ho18 (below_size (by repeat (first | (with_reducible first | exact HB.out | apply below_alloc | apply pw_below_drewN | apply below_drew1) | exact HB.out)))); have n1_ := Aside0.mk (below_step (by repeat (first | (with_reducible first | exact HB.out | apply below_alloc | apply pw_below_drewN | apply below_drew1) | exact HB.out)) hb); clear HB; have HO126 := n0_; have HB := n1_; clear n0_ n1_; clear hb ho18; have p15 : 0 ≤ (0 : Int) := (by omega); have q15 : (0 : Int) < ((y124.length : Int) : Int) := of_decide_eq_true (by first | (with_reducible assumption) | assumption); have qi15 : (0 < y124.length) = True := eq_true (by omega); obtain ⟨go15, co15, eo15, gb15, gl15, cl15, HG15⟩ := Kd.R_form HO126.out (by omega); (first | cases eo15 | (injection eo15 with ea_ en_ ec_; (first | subst ea_ | (injection ea_ with ea_; subst ea_)); subst ec_; clear en_)); have GB15 := Aside0.mk gb15; have GG15 := Aside0.mk HG15; clear gb15 gl15 HG15; obtain ⟨hx15_0, hf15_0⟩ := Kd.R_celln 0 HO126.out (0 : Int) p15 q15; (try rw [show ((0 : Int)).toNat = 0 from rfl] at hx15_0); (try simp only [Nat.reduceMul, Nat.zero_mul, Nat.zero_add, Nat.reduceAdd] at hx15_0); (try rw [show ((0 : Int)).toNat = 0 from rfl] at hf15_0); (try simp only [Nat.reduceMul, Nat.zero_mul, Nat.zero_add, Nat.reduceAdd] at hf15_0); replace p15 := eq_true p15; replace q15 := eq_true q15; obtain ⟨hy19_, hz19_⟩ := Kd.R_celln 0 HO126.out (0 : Int) (by omega) (of_decide_eq_true (by first | (with_reducible assumption) | assumption)); (try simp only [Int.reduceToNat, Int.toNat_zero, Int.toNat_ofNat, Nat.reduceMul, Nat.zero_mul, Nat.zero_add] at hy19_ hz19_); (try rw [show ((0 : Int)).toNat = 0 from rfl] at hy19_); (try rw [show ((0 : Int)).toNat = 0 from rfl] at hz19_); have HP19 := Kd.R_putg HO126.out (0 : Int) 1) | ((with_reducible refine gate_store (t := 3) (p := 44) rfl ?_); refine store_event (t := 3) (p := 44) (v := ?vo_w20) (w1 := (w17.setCell ⟨go15, (0 : Int).toNat, none⟩ (.int .i64 1))) ?hg ?ho ?hn ?hr ?_; (case ho => rfl); (case hg => rfl); (case hn => rfl); (case hr => first | (go_simp; done) | (go_simp; rfl)); intro w20 hw; have hg : w17.grownBy w20 (some go15) := (by rw [hw]; exact HP19.2); have hp_ : Kd.R (Kd.int .i64) 3 w20 w.heap.size (fun _ => True) (.slice (some ⟨go15, 0, none⟩) y124.length co15) y127 := (by rw [hw, Ny127.out]; exact HP19.1); clear HP19; have n0_ := Aside0.mk (hp_); have n1_ := Aside0.mk ((by rw [hw]; exact below_set (HB.out) GB15.out : Below w.heap.size w w20)); clear HO126; clear HB; have HO126 := n0_; have HB := n1_; clear n0_ n1_; clear hg hw hp_))
                    go_loopg [10] kj2 (fun kq v10 w' => ∃ (x9_2 : List Int) (x10_2 : Int), v10 = .int .i64 x10_2 ∧ Aside0 (spec_CountByLetters.l0 kq l0 (wrap64 ((rd l1 1) + 1)) (wrap64 ((rd l1 2) + 1)) x9_2 x10_2 = some (r1, r2)) ∧ Aside0 (kq ≤ kj2) ∧ Aside0 (Kd.R (Kd.int .i64) 3 w' w.heap.size (fun _ => True) (.slice (some ⟨go15, 0, none⟩) y124.length co15) x9_2) ∧ Aside0 (Below w.heap.size w w'))
                    case atStart => exact ⟨(y127), (1), (by first | rfl | (simp; done) | (simp [*]; done) | (simp only [IntWalk.i64_left]; done) | (simp [IntWalk.i64_left]; done) | (simp [*, IntWalk.i64_left]; done)), H', ⟨Nat.le_refl _⟩, ⟨by (with_reducible repeat (first | apply Kd.R_alloc | apply Kd.R_drewN | apply Kd.R_drew)); exact HO126.out⟩, ⟨by repeat (first | (with_reducible first | exact HB.out | apply below_alloc | apply pw_below_drewN | apply below_drew1) | exact HB.out)⟩⟩
                    case round =>
                      clear H'
                      try clear c1
                      try clear p1
                      try clear q1
                      try clear hx1
                      try clear qi1
                      try clear p2
                      try clear c5
                      try clear p6
                      try clear c7
                      try clear c8
                      try clear c8b0
                      try clear c8b1
                      try clear c9
                      try clear c9b0
                      try clear c9b1
                      try clear c10
                      try clear c10b0
                      try clear c10b1
                      try clear c12
                      try clear c12b0
                      try clear c12b1
                      try clear p12
                      try clear q12
                      try clear hx12
                      try clear qi12
                      try clear c13
                      try clear c13b0
                      try clear c13b1
                      try clear c14
                      try clear c14b0
                      try clear c14b1
                      try clear p15
                      try clear q15
                      try clear hx15
                      try clear qi15
                      try clear hf15
                      try clear c19
                      try clear hx121_0
                      try clear hx122_0
                      try clear hx123_0
                      try clear hx15_0
                      try clear p121
                      try clear p122
                      try clear p123
                      try clear p15
                      try clear p2
                      try clear q121
                      try clear q122
                      try clear q123
                      try clear q15
                      obtain ⟨x9_2, x10_2, rfl, HA, HK2, HO_9, HB⟩ := hrel
                      have hl9_2 := (Kd.R_reads' HO_9.out).1
                      rw [hl9_2] at HO_9
                      (try simp only [hl9_2])
                      cases gk with
                      | zero => exact absurd HA.out (by simp [spec_CountByLetters.l0])
                      | succ k2 =>
                        have H := HA.out
                        clear HA
                        simp only [spec_CountByLetters.l0] at H
                        by_cases c21 : x10_2 < (x9_2.length : Int)
                        · rw [if_pos c21] at H
                          have c21b0 : decide (x10_2 < (x9_2.length : Int)) = true := decide_eq_true c21
                          (try (have c21h0 := c21b0; simp only [hl9_2] at c21h0))
                          clear c21
                          by_cases c22 : (wrap64 ((wrap64 ((rd l1 1) + 1)) * (wrap64 ((rd l1 2) + 1)))) = 0
                          · rw [if_pos c22] at H
                            exact absurd H (by simp)
                          · rw [if_neg c22] at H
                            have c22b0 : ((wrap64 ((wrap64 ((rd l1 1) + 1)) * (wrap64 ((rd l1 2) + 1)))) == 0) = false := beq_eq_false_iff_ne.mpr c22
                            have c22b1 : ((wrap64 ((wrap64 ((rd l1 1) + 1)) * (wrap64 ((rd l1 2) + 1)))) != 0) = true := bne_iff_ne.mpr c22
                            (try (have c22h0 := c22b0; simp only [hl9_2] at c22h0))
                            (try (have c22h1 := c22b1; simp only [hl9_2] at c22h1))
                            by_cases c23 : (wrap64 ((rd l1 2) + 1)) = 0
                            · rw [if_pos c23] at H
                              exact absurd H (by simp)
                            · rw [if_neg c23] at H
                              have c23b0 : ((wrap64 ((rd l1 2) + 1)) == 0) = false := beq_eq_false_iff_ne.mpr c23
                              have c23b1 : ((wrap64 ((rd l1 2) + 1)) != 0) = true := bne_iff_ne.mpr c23
                              (try (have c23h0 := c23b0; simp only [hl9_2] at c23h0))
                              (try (have c23h1 := c23b1; simp only [hl9_2] at c23h1))
                              by_cases c24 : (wrap64 ((rd l1 1) + 1)) = 0
                              · rw [if_pos c24] at H
                                exact absurd H (by simp)
                              · rw [if_neg c24] at H
                                have c24b0 : ((wrap64 ((rd l1 1) + 1)) == 0) = false := beq_eq_false_iff_ne.mpr c24
                                have c24b1 : ((wrap64 ((rd l1 1) + 1)) != 0) = true := bne_iff_ne.mpr c24
                                (try (have c24h0 := c24b0; simp only [hl9_2] at c24h0))
                                (try (have c24h1 := c24b1; simp only [hl9_2] at c24h1))
                                have H' := Aside0.mk H
                                clear H
                                try go_wp2
                                have n0_ := Aside0.mk (Kd.R_drew HO_9.out)
                                have n1_ := Aside0.mk (below_drew1 HB.out)
                                clear HO_9
                                clear HB
                                have HO_9 := n0_
                                have HB := n1_
                                clear n0_ n1_
                                refine start_ (n := 16) (S := fun w' => True) (ds := []) #[false, false, false, false, false, false, false, false, false, false, false, false, false, false, false, false] (by kernel_rfl) rfl rfl trivial (fun hHeld => ?_); refine with_tabW spec_CountByLetters.tab9 spec_CountByLetters.bits9 (fun HT_ HW_ => ?_)
                                generalize wr.drew = w25 at HO_9 HB hHeld ⊢
                                refine pure_ (i := 0) (N := some 51) (v := ?_) (a' := ?_) #[true, false, false, false, false, false, false, false, false, false, false, false, false, false, false, false] rfl rfl (any_of HT_.out (by kernel_rfl)) (fun _ _ _ h => h) (Or.inl ⟨by rfl, ?_⟩) ?_ ?_
                                rotate_left
                                · intro w'
                                  go_simp
                                  with_reducible rfl
                                rotate_left
                                · simp only [Act.put, List.setIfInBounds_toArray, List.set_cons_zero, List.set_cons_succ, i64_w, i32_w]
                                  rfl
                                refine pure_ (i := 1) (N := some 52) (v := ?_) (a' := ?_) #[true, true, false, false, false, false, false, false, false, false, false, false, false, false, false, false] rfl rfl (any_of HT_.out (by kernel_rfl)) (fun _ _ _ h => h) (Or.inl ⟨by rfl, ?_⟩) ?_ ?_
                                rotate_left
                                · intro w'
                                  go_simp
                                  with_reducible rfl
                                rotate_left
                                · simp only [Act.put, List.setIfInBounds_toArray, List.set_cons_zero, List.set_cons_succ, i64_w, i32_w]
                                  rfl
                                refine pure_ (i := 2) (N := some 53) (v := ?_) (a' := ?_) #[true, true, true, false, false, false, false, false, false, false, false, false, false, false, false, false] rfl rfl (any_of HT_.out (by kernel_rfl)) (fun _ _ _ h => h) (Or.inl ⟨by rfl, ?_⟩) ?_ ?_
                                rotate_left
                                · intro w'
                                  go_simp
                                  with_reducible rfl
                                rotate_left
                                · simp only [Act.put, List.setIfInBounds_toArray, List.set_cons_zero, List.set_cons_succ, i64_w, i32_w]
                                  rfl
                                refine pure_ (i := 3) (N := some 54) (v := ?_) (a' := ?_) #[true, true, true, true, false, false, false, false, false, false, false, false, false, false, false, false] rfl rfl (any_of HT_.out (by kernel_rfl)) (fun _ _ _ h => h) (Or.inl ⟨by rfl, ?_⟩) ?_ ?_
                                rotate_left
                                · intro w'
                                  go_simp
                                  with_reducible rfl
                                rotate_left
                                · simp only [Act.put, List.setIfInBounds_toArray, List.set_cons_zero, List.set_cons_succ, i64_w, i32_w]
                                  rfl
                                refine pure_ (i := 4) (N := some 55) (v := ?_) (a' := ?_) #[true, true, true, true, true, false, false, false, false, false, false, false, false, false, false, false] rfl rfl (any_of HT_.out (by kernel_rfl)) (fun _ _ _ h => h) (Or.inl ⟨by rfl, ?_⟩) ?_ ?_
                                rotate_left
                                · intro w'
                                  go_simp
                                  with_reducible rfl
                                rotate_left
                                · simp only [Act.put, List.setIfInBounds_toArray, List.set_cons_zero, List.set_cons_succ, i64_w, i32_w]
                                  rfl
                                refine pure_ (i := 5) (N := some 56) (v := ?_) (a' := ?_) #[true, true, true, true, true, true, false, false, false, false, false, false, false, false, false, false] rfl rfl (any_of HT_.out (by kernel_rfl)) (fun _ _ _ h => h) (Or.inl ⟨by rfl, ?_⟩) ?_ ?_
                                rotate_left
                                · intro w'
                                  go_simp
                                  with_reducible rfl
                                rotate_left
                                · simp only [Act.put, List.setIfInBounds_toArray, List.set_cons_zero, List.set_cons_succ, i64_w, i32_w]
                                  rfl
                                refine pure_ (i := 6) (N := some 57) (v := ?_) (a' := ?_) #[true, true, true, true, true, true, true, false, false, false, false, false, false, false, false, false] rfl rfl (any_of HT_.out (by kernel_rfl)) (fun _ _ _ h => h) (Or.inl ⟨by rfl, ?_⟩) ?_ ?_
                                rotate_left
                                · intro w'
                                  go_simp
                                  with_reducible rfl
                                rotate_left
                                · simp only [Act.put, List.setIfInBounds_toArray, List.set_cons_zero, List.set_cons_succ, i64_w, i32_w]
                                  rfl
                                refine pure_ (i := 7) (N := some 58) (v := ?_) (a' := ?_) #[true, true, true, true, true, true, true, true, false, false, false, false, false, false, false, false] rfl rfl (any_of HT_.out (by kernel_rfl)) (fun _ _ _ h => h) (Or.inl ⟨by rfl, ?_⟩) ?_ ?_
                                rotate_left
                                · intro w'
                                  go_simp
                                  with_reducible rfl
                                rotate_left
                                · simp only [Act.put, List.setIfInBounds_toArray, List.set_cons_zero, List.set_cons_succ, i64_w, i32_w]
                                  rfl
                                refine pure_ (i := 8) (N := some 59) (v := ?_) (a' := ?_) #[true, true, true, true, true, true, true, true, true, false, false, false, false, false, false, false] rfl rfl (any_of HT_.out (by kernel_rfl)) (fun _ _ _ h => h) (Or.inl ⟨by rfl, ?_⟩) ?_ ?_
                                rotate_left
                                · intro w'
                                  go_simp
                                  with_reducible rfl
                                rotate_left
                                · simp only [Act.put, List.setIfInBounds_toArray, List.set_cons_zero, List.set_cons_succ, i64_w, i32_w]
                                  rfl
                                refine pure_ (i := 9) (N := some 60) (v := ?_) (a' := ?_) #[true, true, true, true, true, true, true, true, true, true, false, false, false, false, false, false] rfl rfl (any_of HT_.out (by kernel_rfl)) (fun _ _ _ h => h) (Or.inl ⟨by rfl, ?_⟩) ?_ ?_
                                rotate_left
                                · intro w'
                                  go_simp
                                  with_reducible rfl
                                rotate_left
                                · simp only [Act.put, List.setIfInBounds_toArray, List.set_cons_zero, List.set_cons_succ, i64_w, i32_w]
                                  rfl
                                refine pure_ (i := 10) (N := some 61) (v := ?_) (a' := ?_) #[true, true, true, true, true, true, true, true, true, true, true, false, false, false, false, false] rfl rfl (any_of HT_.out (by kernel_rfl)) (fun _ _ _ h => h) (Or.inl ⟨by rfl, ?_⟩) ?_ ?_
                                rotate_left
                                · intro w'
                                  go_simp
                                  with_reducible rfl
                                rotate_left
                                · simp only [Act.put, List.setIfInBounds_toArray, List.set_cons_zero, List.set_cons_succ, i64_w, i32_w]
                                  rfl
                                refine pure_ (i := 11) (N := some 62) (v := ?_) (a' := ?_) #[true, true, true, true, true, true, true, true, true, true, true, true, false, false, false, false] rfl rfl (any_of HT_.out (by kernel_rfl)) (fun _ _ _ h => h) (Or.inl ⟨by rfl, ?_⟩) ?_ ?_
                                rotate_left
                                · intro w'
                                  go_simp
                                  with_reducible rfl
                                rotate_left
                                · simp only [Act.put, List.setIfInBounds_toArray, List.set_cons_zero, List.set_cons_succ, i64_w, i32_w]
                                  rfl
                                refine pure_ (i := 12) (N := some 63) (v := ?_) (a' := ?_) #[true, true, true, true, true, true, true, true, true, true, true, true, true, false, false, false] rfl rfl (any_of HT_.out (by kernel_rfl)) (fun _ _ _ h => h) (Or.inl ⟨by rfl, ?_⟩) ?_ ?_
                                rotate_left
                                · intro w'
                                  go_simp
                                  with_reducible rfl
                                rotate_left
                                · simp only [Act.put, List.setIfInBounds_toArray, List.set_cons_zero, List.set_cons_succ, i64_w, i32_w]
                                  rfl
                                refine pure_ (i := 13) (N := some 11) (v := ?_) (a' := ?_) #[true, true, true, true, true, true, true, true, true, true, true, true, true, true, false, false] rfl rfl (any_of HT_.out (by kernel_rfl)) (fun _ _ _ h => h) (Or.inl ⟨by rfl, ?_⟩) ?_ ?_
                                rotate_left
                                · intro w'
                                  go_simp
                                  with_reducible rfl
                                rotate_left
                                · simp only [Act.put, List.setIfInBounds_toArray, List.set_cons_zero, List.set_cons_succ, i64_w, i32_w]
                                  rfl
                                refine pure_ (i := 14) (N := some 12) (v := ?_) (a' := ?_) #[true, true, true, true, true, true, true, true, true, true, true, true, true, true, true, false] rfl rfl (any_of HT_.out (by kernel_rfl)) (fun _ _ _ h => h) (Or.inl ⟨by rfl, ?_⟩) ?_ ?_
                                rotate_left
                                · intro w'
                                  go_simp
                                  with_reducible rfl
                                rotate_left
                                · simp only [Act.put, List.setIfInBounds_toArray, List.set_cons_zero, List.set_cons_succ, i64_w, i32_w]
                                  rfl
                                refine pure_ (i := 15) (N := some 13) (v := ?_) (a' := ?_) #[true, true, true, true, true, true, true, true, true, true, true, true, true, true, true, true] rfl rfl (any_of HT_.out (by kernel_rfl)) (fun _ _ _ h => h) (Or.inl ⟨by rfl, ?_⟩) ?_ ?_
                                rotate_left
                                · intro w'
                                  go_simp
                                  with_reducible rfl
                                rotate_left
                                · simp only [Act.put, List.setIfInBounds_toArray, List.set_cons_zero, List.set_cons_succ, i64_w, i32_w]
                                  rfl
                                refine done_ (done_of HT_.out (by kernel_rfl)) ?_
                                try go_wp2
                                go_loopg [66] k2 (fun kq v66 w' => ∃ (x9_3 : List Int) (x66_3 : Int), v66 = .int .i64 x66_3 ∧ Aside0 (spec_CountByLetters.l1 kq l0 (wrap64 ((rd l1 1) + 1)) (wrap64 ((rd l1 2) + 1)) x9_3 x10_2 (wrap64 (Int.tdiv x10_2 (wrap64 ((wrap64 ((rd l1 1) + 1)) * (wrap64 ((rd l1 2) + 1)))))) (Int.tmod (wrap64 (Int.tdiv x10_2 (wrap64 ((rd l1 2) + 1)))) (wrap64 ((rd l1 1) + 1))) (Int.tmod x10_2 (wrap64 ((rd l1 2) + 1))) l0 (l0.length : Int) x66_3 = some (r1, r2)) ∧ Aside0 (kq ≤ k2) ∧ Aside0 (Kd.R (Kd.int .i64) 3 w' w.heap.size (fun _ => True) (.slice (some ⟨go15, 0, none⟩) x9_2.length co15) x9_3) ∧ Aside0 (Below w.heap.size w w'))
                                case atStart => exact ⟨(x9_2), (0), (by first | rfl | (simp; done) | (simp [*]; done) | (simp only [IntWalk.i64_left]; done) | (simp [IntWalk.i64_left]; done) | (simp [*, IntWalk.i64_left]; done)), H', ⟨Nat.le_refl _⟩, ⟨by (try simp only [hl9_2]); (with_reducible repeat (first | apply Kd.R_alloc | apply Kd.R_drewN | apply Kd.R_drew)); exact HO_9.out⟩, ⟨by repeat (first | (with_reducible first | exact HB.out | apply below_alloc | apply pw_below_drewN | apply below_drew1) | exact HB.out)⟩⟩
                                case round =>
                                  clear H'
                                  try clear c1
                                  try clear p1
                                  try clear q1
                                  try clear hx1
                                  try clear qi1
                                  try clear c2
                                  try clear p2
                                  try clear c5
                                  try clear p6
                                  try clear c7
                                  try clear c8
                                  try clear c8b0
                                  try clear c8b1
                                  try clear c9
                                  try clear c9b0
                                  try clear c9b1
                                  try clear c10
                                  try clear c10b0
                                  try clear c10b1
                                  try clear c12
                                  try clear c12b0
                                  try clear c12b1
                                  try clear p12
                                  try clear q12
                                  try clear hx12
                                  try clear qi12
                                  try clear c13
                                  try clear c13b0
                                  try clear c13b1
                                  try clear c14
                                  try clear c14b0
                                  try clear c14b1
                                  try clear p15
                                  try clear q15
                                  try clear hx15
                                  try clear qi15
                                  try clear hf15
                                  try clear c19
                                  try clear c21
                                  try clear c21b0
                                  try clear c22
                                  try clear c22b0
                                  try clear c22b1
                                  try clear c23
                                  try clear c23b0
                                  try clear c23b1
                                  try clear c24
                                  try clear c24b0
                                  try clear c24b1
                                  try clear hx121_0
                                  try clear hx122_0
                                  try clear hx123_0
                                  try clear hx15_0
                                  try clear p1
                                  try clear p12
                                  try clear p121
                                  try clear p122
                                  try clear p123
                                  try clear p15
                                  try clear p2
                                  try clear p6
                                  try clear q1
                                  try clear q12
                                  try clear q121
                                  try clear q122
                                  try clear q123
                                  try clear q15
                                  obtain ⟨x9_3, x66_3, rfl, HA, HK3, HO_9, HB⟩ := hrel
                                  have hl9_3 := (Kd.R_reads' HO_9.out).1
                                  rw [hl9_3] at HO_9
                                  (try simp only [hl9_3])
                                  cases gk with
                                  | zero => exact absurd HA.out (by simp [spec_CountByLetters.l1])
                                  | succ k3 =>
                                    have H := HA.out
                                    clear HA
                                    simp only [spec_CountByLetters.l1] at H
                                    by_cases c26 : x66_3 < (l0.length : Int)
                                    · rw [if_pos c26] at H
                                      have c26b0 : decide (x66_3 < (l0.length : Int)) = true := decide_eq_true c26
                                      (try (have c26h0 := c26b0; simp only [hl9_2, hl9_3] at c26h0))
                                      clear c26
                                      by_cases c27 : 0 ≤ x66_3
                                      · rw [if_pos c27] at H
                                        have c27b0 : decide (0 ≤ x66_3) = true := decide_eq_true c27
                                        (try (have c27h0 := c27b0; simp only [hl9_2, hl9_3] at c27h0))
                                        clear c27
                                        by_cases c28 : x66_3 < (l0.length : Int)
                                        · rw [if_pos c28] at H
                                          have c28b0 : decide (x66_3 < (l0.length : Int)) = true := decide_eq_true c28
                                          (try (have c28h0 := c28b0; simp only [hl9_2, hl9_3] at c28h0))
                                          clear c28
                                          replace H := Option.bind_eq_some_iff.mp H
                                          obtain ⟨t130, A290, H⟩ := H
                                          replace H : (if 0 < (t130.length : Int) then (if (rd t130 0) ≤ (wrap64 (Int.tdiv x10_2 (wrap64 ((wrap64 ((rd l1 1) + 1)) * (wrap64 ((rd l1 2) + 1)))))) then (if 1 < (t130.length : Int) then (if (rd t130 1) ≤ (Int.tmod (wrap64 (Int.tdiv x10_2 (wrap64 ((rd l1 2) + 1)))) (wrap64 ((rd l1 1) + 1))) then (if 2 < (t130.length : Int) then (if (rd t130 2) ≤ (Int.tmod x10_2 (wrap64 ((rd l1 2) + 1))) then (if 0 ≤ x10_2 then (if x10_2 < (x9_3.length : Int) then (if 0 ≤ (wrap64 ((wrap64 ((wrap64 ((wrap64 ((wrap64 ((wrap64 ((wrap64 (Int.tdiv x10_2 (wrap64 ((wrap64 ((rd l1 1) + 1)) * (wrap64 ((rd l1 2) + 1)))))) - (rd t130 0))) * (wrap64 ((rd l1 1) + 1)))) * (wrap64 ((rd l1 2) + 1)))) + (wrap64 ((wrap64 ((Int.tmod (wrap64 (Int.tdiv x10_2 (wrap64 ((rd l1 2) + 1)))) (wrap64 ((rd l1 1) + 1))) - (rd t130 1))) * (wrap64 ((rd l1 2) + 1)))))) + (Int.tmod x10_2 (wrap64 ((rd l1 2) + 1))))) - (rd t130 2))) then (if (wrap64 ((wrap64 ((wrap64 ((wrap64 ((wrap64 ((wrap64 ((wrap64 (Int.tdiv x10_2 (wrap64 ((wrap64 ((rd l1 1) + 1)) * (wrap64 ((rd l1 2) + 1)))))) - (rd t130 0))) * (wrap64 ((rd l1 1) + 1)))) * (wrap64 ((rd l1 2) + 1)))) + (wrap64 ((wrap64 ((Int.tmod (wrap64 (Int.tdiv x10_2 (wrap64 ((rd l1 2) + 1)))) (wrap64 ((rd l1 1) + 1))) - (rd t130 1))) * (wrap64 ((rd l1 2) + 1)))))) + (Int.tmod x10_2 (wrap64 ((rd l1 2) + 1))))) - (rd t130 2))) < (x9_3.length : Int) then (spec_CountByLetters.l1 k3 l0 (wrap64 ((rd l1 1) + 1)) (wrap64 ((rd l1 2) + 1)) (x9_3.set (x10_2 : Int).toNat (wrap64 ((rd x9_3 x10_2) + (rd x9_3 (wrap64 ((wrap64 ((wrap64 ((wrap64 ((wrap64 ((wrap64 ((wrap64 (Int.tdiv x10_2 (wrap64 ((wrap64 ((rd l1 1) + 1)) * (wrap64 ((rd l1 2) + 1)))))) - (rd t130 0))) * (wrap64 ((rd l1 1) + 1)))) * (wrap64 ((rd l1 2) + 1)))) + (wrap64 ((wrap64 ((Int.tmod (wrap64 (Int.tdiv x10_2 (wrap64 ((rd l1 2) + 1)))) (wrap64 ((rd l1 1) + 1))) - (rd t130 1))) * (wrap64 ((rd l1 2) + 1)))))) + (Int.tmod x10_2 (wrap64 ((rd l1 2) + 1))))) - (rd t130 2))))))) x10_2 (wrap64 (Int.tdiv x10_2 (wrap64 ((wrap64 ((rd l1 1) + 1)) * (wrap64 ((rd l1 2) + 1)))))) (Int.tmod (wrap64 (Int.tdiv x10_2 (wrap64 ((rd l1 2) + 1)))) (wrap64 ((rd l1 1) + 1))) (Int.tmod x10_2 (wrap64 ((rd l1 2) + 1))) l0 (l0.length : Int) (wrap64 (x66_3 + 1))) else (none)) else (none)) else (none)) else (none)) else (spec_CountByLetters.l1 k3 l0 (wrap64 ((rd l1 1) + 1)) (wrap64 ((rd l1 2) + 1)) x9_3 x10_2 (wrap64 (Int.tdiv x10_2 (wrap64 ((wrap64 ((rd l1 1) + 1)) * (wrap64 ((rd l1 2) + 1)))))) (Int.tmod (wrap64 (Int.tdiv x10_2 (wrap64 ((rd l1 2) + 1)))) (wrap64 ((rd l1 1) + 1))) (Int.tmod x10_2 (wrap64 ((rd l1 2) + 1))) l0 (l0.length : Int) (wrap64 (x66_3 + 1)))) else (none)) else (spec_CountByLetters.l1 k3 l0 (wrap64 ((rd l1 1) + 1)) (wrap64 ((rd l1 2) + 1)) x9_3 x10_2 (wrap64 (Int.tdiv x10_2 (wrap64 ((wrap64 ((rd l1 1) + 1)) * (wrap64 ((rd l1 2) + 1)))))) (Int.tmod (wrap64 (Int.tdiv x10_2 (wrap64 ((rd l1 2) + 1)))) (wrap64 ((rd l1 1) + 1))) (Int.tmod x10_2 (wrap64 ((rd l1 2) + 1))) l0 (l0.length : Int) (wrap64 (x66_3 + 1)))) else (none)) else (spec_CountByLetters.l1 k3 l0 (wrap64 ((rd l1 1) + 1)) (wrap64 ((rd l1 2) + 1)) x9_3 x10_2 (wrap64 (Int.tdiv x10_2 (wrap64 ((wrap64 ((rd l1 1) + 1)) * (wrap64 ((rd l1 2) + 1)))))) (Int.tmod (wrap64 (Int.tdiv x10_2 (wrap64 ((rd l1 2) + 1)))) (wrap64 ((rd l1 1) + 1))) (Int.tmod x10_2 (wrap64 ((rd l1 2) + 1))) l0 (l0.length : Int) (wrap64 (x66_3 + 1)))) else (none)) = some (r1, r2) := H
                                          have A29 := Aside0.mk A290
                                          clear A290
                                          by_cases c30 : 0 < (t130.length : Int)
                                          · rw [if_pos c30] at H
                                            have c30b0 : decide (0 < (t130.length : Int)) = true := decide_eq_true c30
                                            have c30b1 : decide (0 < t130.length) = true := decide_eq_true (by omega)
                                            (try (have c30h0 := c30b0; simp only [hl9_2, hl9_3] at c30h0))
                                            (try (have c30h1 := c30b1; simp only [hl9_2, hl9_3] at c30h1))
                                            clear c30
                                            by_cases c31 : (rd t130 0) ≤ (wrap64 (Int.tdiv x10_2 (wrap64 ((wrap64 ((rd l1 1) + 1)) * (wrap64 ((rd l1 2) + 1))))))
                                            · rw [if_pos c31] at H
                                              have c31b0 : decide ((rd t130 0) ≤ (wrap64 (Int.tdiv x10_2 (wrap64 ((wrap64 ((rd l1 1) + 1)) * (wrap64 ((rd l1 2) + 1))))))) = true := decide_eq_true c31
                                              (try (have c31h0 := c31b0; simp only [hl9_2, hl9_3] at c31h0))
                                              clear c31
                                              by_cases c32 : 1 < (t130.length : Int)
                                              · rw [if_pos c32] at H
                                                have c32b0 : decide (1 < (t130.length : Int)) = true := decide_eq_true c32
                                                have c32b1 : decide (1 < t130.length) = true := decide_eq_true (by omega)
                                                (try (have c32h0 := c32b0; simp only [hl9_2, hl9_3] at c32h0))
                                                (try (have c32h1 := c32b1; simp only [hl9_2, hl9_3] at c32h1))
                                                clear c32
                                                by_cases c33 : (rd t130 1) ≤ (Int.tmod (wrap64 (Int.tdiv x10_2 (wrap64 ((rd l1 2) + 1)))) (wrap64 ((rd l1 1) + 1)))
                                                · rw [if_pos c33] at H
                                                  have c33b0 : decide ((rd t130 1) ≤ (Int.tmod (wrap64 (Int.tdiv x10_2 (wrap64 ((rd l1 2) + 1)))) (wrap64 ((rd l1 1) + 1)))) = true := decide_eq_true c33
                                                  (try (have c33h0 := c33b0; simp only [hl9_2, hl9_3] at c33h0))
                                                  clear c33
                                                  by_cases c34 : 2 < (t130.length : Int)
                                                  · rw [if_pos c34] at H
                                                    have c34b0 : decide (2 < (t130.length : Int)) = true := decide_eq_true c34
                                                    have c34b1 : decide (2 < t130.length) = true := decide_eq_true (by omega)
                                                    (try (have c34h0 := c34b0; simp only [hl9_2, hl9_3] at c34h0))
                                                    (try (have c34h1 := c34b1; simp only [hl9_2, hl9_3] at c34h1))
                                                    clear c34
                                                    by_cases c35 : (rd t130 2) ≤ (Int.tmod x10_2 (wrap64 ((rd l1 2) + 1)))
                                                    · rw [if_pos c35] at H
                                                      have c35b0 : decide ((rd t130 2) ≤ (Int.tmod x10_2 (wrap64 ((rd l1 2) + 1)))) = true := decide_eq_true c35
                                                      (try (have c35h0 := c35b0; simp only [hl9_2, hl9_3] at c35h0))
                                                      clear c35
                                                      by_cases c36 : 0 ≤ x10_2
                                                      · rw [if_pos c36] at H
                                                        have c36b0 : decide (0 ≤ x10_2) = true := decide_eq_true c36
                                                        (try (have c36h0 := c36b0; simp only [hl9_2, hl9_3] at c36h0))
                                                        clear c36
                                                        by_cases c37 : x10_2 < (x9_3.length : Int)
                                                        · rw [if_pos c37] at H
                                                          have c37b0 : decide (x10_2 < (x9_3.length : Int)) = true := decide_eq_true c37
                                                          (try (have c37h0 := c37b0; simp only [hl9_2, hl9_3] at c37h0))
                                                          clear c37
                                                          obtain ⟨ji38, hji38⟩ : ∃ j_ : Int, (wrap64 ((wrap64 ((wrap64 ((wrap64 ((wrap64 ((wrap64 ((wrap64 (Int.tdiv x10_2 (wrap64 ((wrap64 ((rd l1 1) + 1)) * (wrap64 ((rd l1 2) + 1)))))) - (rd t130 0))) * (wrap64 ((rd l1 1) + 1)))) * (wrap64 ((rd l1 2) + 1)))) + (wrap64 ((wrap64 ((Int.tmod (wrap64 (Int.tdiv x10_2 (wrap64 ((rd l1 2) + 1)))) (wrap64 ((rd l1 1) + 1))) - (rd t130 1))) * (wrap64 ((rd l1 2) + 1)))))) + (Int.tmod x10_2 (wrap64 ((rd l1 2) + 1))))) - (rd t130 2))) = j_ := ⟨_, rfl⟩
                                                          replace H : (if 0 ≤ (ji38) then (if (ji38) < (x9_3.length : Int) then (spec_CountByLetters.l1 k3 l0 (wrap64 ((rd l1 1) + 1)) (wrap64 ((rd l1 2) + 1)) (x9_3.set (x10_2 : Int).toNat (wrap64 ((rd x9_3 x10_2) + (rd x9_3 (ji38))))) x10_2 (wrap64 (Int.tdiv x10_2 (wrap64 ((wrap64 ((rd l1 1) + 1)) * (wrap64 ((rd l1 2) + 1)))))) (Int.tmod (wrap64 (Int.tdiv x10_2 (wrap64 ((rd l1 2) + 1)))) (wrap64 ((rd l1 1) + 1))) (Int.tmod x10_2 (wrap64 ((rd l1 2) + 1))) l0 (l0.length : Int) (wrap64 (x66_3 + 1))) else (none)) else (none)) = some (r1, r2) := by first | (rw [hji38] at H; exact H) | (simp only [hji38] at H ⊢; exact H)
                                                          (try rw [hji38] at A29)
                                                          have hji38w : (IntKind.i64.wrap ((wrap64 ((wrap64 ((wrap64 ((wrap64 ((wrap64 ((wrap64 (Int.tdiv x10_2 (wrap64 ((wrap64 ((rd l1 1) + 1)) * (wrap64 ((rd l1 2) + 1)))))) - (rd t130 0))) * (wrap64 ((rd l1 1) + 1)))) * (wrap64 ((rd l1 2) + 1)))) + (wrap64 ((wrap64 ((Int.tmod (wrap64 (Int.tdiv x10_2 (wrap64 ((rd l1 2) + 1)))) (wrap64 ((rd l1 1) + 1))) - (rd t130 1))) * (wrap64 ((rd l1 2) + 1)))))) + (Int.tmod x10_2 (wrap64 ((rd l1 2) + 1))))) - (rd t130 2))) = ji38 := (i64_w _).trans hji38
                                                          by_cases c39 : 0 ≤ (ji38)
                                                          · rw [if_pos c39] at H
                                                            have c39b0 : decide (0 ≤ (ji38)) = true := decide_eq_true c39
                                                            (try (have c39h0 := c39b0; simp only [hl9_2, hl9_3] at c39h0))
                                                            clear c39
                                                            by_cases c40 : (ji38) < (x9_3.length : Int)
                                                            · rw [if_pos c40] at H
                                                              have c40b0 : decide ((ji38) < (x9_3.length : Int)) = true := decide_eq_true c40
                                                              (try (have c40h0 := c40b0; simp only [hl9_2, hl9_3] at c40h0))
                                                              clear c40
                                                              obtain ⟨y141, hy141⟩ : ∃ y_ : List Int, y_ = (x9_3.set (x10_2 : Int).toNat (wrap64 ((rd x9_3 x10_2) + (rd x9_3 (ji38))))) := ⟨_, rfl⟩
                                                              replace H : (spec_CountByLetters.l1 k3 l0 (wrap64 ((rd l1 1) + 1)) (wrap64 ((rd l1 2) + 1)) y141 x10_2 (wrap64 (Int.tdiv x10_2 (wrap64 ((wrap64 ((rd l1 1) + 1)) * (wrap64 ((rd l1 2) + 1)))))) (Int.tmod (wrap64 (Int.tdiv x10_2 (wrap64 ((rd l1 2) + 1)))) (wrap64 ((rd l1 1) + 1))) (Int.tmod x10_2 (wrap64 ((rd l1 2) + 1))) l0 (l0.length : Int) (wrap64 (x66_3 + 1))) = some (r1, r2) := by first | (rw [hy141]; with_reducible exact H) | (have H2_ := (Option.bind_some _ _).symm.trans H; rw [hy141]; with_reducible exact H2_) | (have H2_ := (Option.bind_some _ _).symm.trans H; with_reducible exact H2_) | with_reducible exact H | (rw [hy141]; exact H) | exact H
                                                              have Ny141 := Aside0.mk hy141
                                                              clear hy141
                                                              have H' := Aside0.mk H
                                                              clear H
                                                              have p129 : 0 ≤ (x66_3 : Int) := of_decide_eq_true (by first | (with_reducible assumption) | assumption)
                                                              have q129 : x66_3 < (l0.length : Int) := of_decide_eq_true (by first | (with_reducible assumption) | assumption)
                                                              obtain ⟨ad129, e129, hx129_0⟩ := Kd.at_string HR0.out x66_3 p129 q129
                                                              cases e129
                                                              (try replace hx129_0 := (HB.out.cell (World.block_lt_of_cell? w _ hx129_0)).trans hx129_0)
                                                              replace p129 := eq_true p129
                                                              replace q129 := eq_true q129
                                                              try go_wp2_with (first | ((with_reducible refine gate_callee (f := 21) rfl ?_); refine goesL_ (some 71) rfl rfl Tryd.func21 (by kernel_rfl) rfl #[.string (rdOf ByteArray.empty l0 x66_3)] rfl (by (try simp only [List.map_toArray, List.map_cons, List.map_nil]); first | done | rfl | (simp only [List.length_drop, List.length_take]; rfl)) ?_; (with_reducible refine (spec_wdLetters.calls k3 (rdOf ByteArray.empty l0 x66_3) t130 _ A29.out).mono ?_); rintro e w42 ⟨v131, rfl, ho0, hb⟩; refine ⟨_, rfl, ?_⟩; have n0_ := Aside0.mk (Kd.R_elder' (by (with_reducible repeat (first | apply Kd.R_alloc | apply Kd.R_drewN | apply Kd.R_drew)); exact HO_9.out) (Kd.R_base ho0) hb); have n1_ := Aside0.mk (Kd.R_lower (Kd.R_new' ho0 (Kd.R_lt (by (with_reducible repeat (first | apply Kd.R_alloc | apply Kd.R_drewN | apply Kd.R_drew)); exact HO_9.out))) (below_size (by repeat (first | (with_reducible first | exact HB.out | apply below_alloc | apply pw_below_drewN | apply below_drew1) | exact HB.out)))); have n2_ := Aside0.mk (below_step (by repeat (first | (with_reducible first | exact HB.out | apply below_alloc | apply pw_below_drewN | apply below_drew1) | exact HB.out)) hb); clear HO_9; clear HB; have HO_9 := n0_; have HO132 := n1_; have HB := n2_; clear n0_ n1_ n2_; (try clear hb); (try clear hb2); (try clear hk); (try clear hi); (try clear ho0); obtain ⟨Ao43, co43, eo43⟩ := Kd.R_slice HO132.out; subst eo43; have p133 : 0 ≤ (0 : Int) := (by omega); have q133 : 0 < (t130.length : Int) := of_decide_eq_true (by first | (with_reducible assumption) | assumption); obtain ⟨ad133, e133, hx133_0⟩ := Kd.at_int (Kd.R_reads' HO132.out).2.2 0 p133 q133; cases e133; have qi133 : (0 < t130.length) = True := eq_true (by omega); (try rw [show ((0 : Int)).toNat = 0 from rfl] at hx133_0); (try rw [Addr.add_zero'] at hx133_0); replace p133 := eq_true p133; replace q133 := eq_true q133; have p134 : 0 ≤ (1 : Int) := (by omega); have q134 : 1 < (t130.length : Int) := of_decide_eq_true (by first | (with_reducible assumption) | assumption); obtain ⟨ad134, e134, hx134_0⟩ := Kd.at_int (Kd.R_reads' HO132.out).2.2 1 p134 q134; obtain rfl : ad133 = ad134 := (by injection e134); (try simp only [show (1 : Int).toNat = 1 from rfl, Nat.reduceMul, Nat.reduceEqDiff, Go.Addr.add, ↓reduceIte] at hx134_0); have qi134 : (1 < t130.length) = True := eq_true (by omega); (try rw [show ((1 : Int)).toNat = 1 from rfl] at hx134_0); replace p134 := eq_true p134; replace q134 := eq_true q134; have p135 : 0 ≤ (2 : Int) := (by omega); have q135 : 2 < (t130.length : Int) := of_decide_eq_true (by first | (with_reducible assumption) | assumption); obtain ⟨ad135, e135, hx135_0⟩ := Kd.at_int (Kd.R_reads' HO132.out).2.2 2 p135 q135; obtain rfl : ad133 = ad135 := (by injection e135); (try simp only [show (2 : Int).toNat = 2 from rfl, Nat.reduceMul, Nat.reduceEqDiff, Go.Addr.add, ↓reduceIte] at hx135_0); have qi135 : (2 < t130.length) = True := eq_true (by omega); (try rw [show ((2 : Int)).toNat = 2 from rfl] at hx135_0); replace p135 := eq_true p135; replace q135 := eq_true q135))
                                                              have n0_ := Aside0.mk (Kd.R_drew HO_9.out)
                                                              have n1_ := Aside0.mk (Kd.R_drew HO132.out)
                                                              have n2_ := Aside0.mk (below_drew1 HB.out)
                                                              clear HO_9
                                                              clear HO132
                                                              clear HB
                                                              have HO_9 := n0_
                                                              have HO132 := n1_
                                                              have HB := n2_
                                                              clear n0_ n1_ n2_
                                                              have p136 : 0 ≤ (x10_2 : Int) := of_decide_eq_true (by first | (with_reducible assumption) | assumption)
                                                              have q136 : x10_2 < (x9_3.length : Int) := of_decide_eq_true (by first | (with_reducible assumption) | assumption)
                                                              obtain ⟨ad136, e136, hx136_0⟩ := Kd.at_int (Kd.R_reads' HO_9.out).2.2 x10_2 p136 q136
                                                              obtain rfl : (⟨go15, 0, none⟩ : Addr) = ad136 := (by injection e136)
                                                              (first | simp only [add_plain] at hx136_0 | simp only [add_at] at hx136_0 | simp only [Addr.add, Nat.zero_add] at hx136_0 | skip)
                                                              replace p136 := eq_true p136
                                                              replace q136 := eq_true q136
                                                              have p137 : 0 ≤ (0 : Int) := (by omega)
                                                              have q137 : 0 < (t130.length : Int) := of_decide_eq_true (by first | (with_reducible assumption) | assumption)
                                                              obtain ⟨ad137, e137, hx137_0⟩ := Kd.at_int (Kd.R_reads' HO132.out).2.2 0 p137 q137
                                                              obtain rfl : ad133 = ad137 := (by injection e137)
                                                              have qi137 : (0 < t130.length) = True := eq_true (by omega)
                                                              (try rw [show ((0 : Int)).toNat = 0 from rfl] at hx137_0)
                                                              (try rw [Addr.add_zero'] at hx137_0)
                                                              replace p137 := eq_true p137
                                                              replace q137 := eq_true q137
                                                              have p138 : 0 ≤ (1 : Int) := (by omega)
                                                              have q138 : 1 < (t130.length : Int) := of_decide_eq_true (by first | (with_reducible assumption) | assumption)
                                                              obtain ⟨ad138, e138, hx138_0⟩ := Kd.at_int (Kd.R_reads' HO132.out).2.2 1 p138 q138
                                                              obtain rfl : ad133 = ad138 := (by injection e138)
                                                              (try simp only [show (1 : Int).toNat = 1 from rfl, Nat.reduceMul, Nat.reduceEqDiff, Go.Addr.add, ↓reduceIte] at hx138_0)
                                                              have qi138 : (1 < t130.length) = True := eq_true (by omega)
                                                              (try rw [show ((1 : Int)).toNat = 1 from rfl] at hx138_0)
                                                              replace p138 := eq_true p138
                                                              replace q138 := eq_true q138
                                                              have p139 : 0 ≤ (2 : Int) := (by omega)
                                                              have q139 : 2 < (t130.length : Int) := of_decide_eq_true (by first | (with_reducible assumption) | assumption)
                                                              obtain ⟨ad139, e139, hx139_0⟩ := Kd.at_int (Kd.R_reads' HO132.out).2.2 2 p139 q139
                                                              obtain rfl : ad133 = ad139 := (by injection e139)
                                                              (try simp only [show (2 : Int).toNat = 2 from rfl, Nat.reduceMul, Nat.reduceEqDiff, Go.Addr.add, ↓reduceIte] at hx139_0)
                                                              have qi139 : (2 < t130.length) = True := eq_true (by omega)
                                                              (try rw [show ((2 : Int)).toNat = 2 from rfl] at hx139_0)
                                                              replace p139 := eq_true p139
                                                              replace q139 := eq_true q139
                                                              have p140 : 0 ≤ ((ji38) : Int) := of_decide_eq_true (by first | (with_reducible assumption) | assumption)
                                                              have q140 : (ji38) < (x9_3.length : Int) := of_decide_eq_true (by first | (with_reducible assumption) | assumption)
                                                              obtain ⟨ad140, e140, hx140_0⟩ := Kd.at_int (Kd.R_reads' HO_9.out).2.2 (ji38) p140 q140
                                                              obtain rfl : (⟨go15, 0, none⟩ : Addr) = ad140 := (by injection e140)
                                                              (first | simp only [add_plain] at hx140_0 | simp only [add_at] at hx140_0 | simp only [Addr.add, Nat.zero_add] at hx140_0 | skip)
                                                              replace p140 := eq_true p140
                                                              replace q140 := eq_true q140
                                                              have p41 : 0 ≤ (x10_2 : Int) := of_decide_eq_true (by first | (with_reducible assumption) | assumption)
                                                              have q41 : (x10_2 : Int) < ((x9_3.length : Int) : Int) := of_decide_eq_true (by first | (with_reducible assumption) | assumption)
                                                              obtain ⟨hx41_0, hf41_0⟩ := Kd.R_celln 0 HO_9.out (x10_2 : Int) p41 q41
                                                              replace p41 := eq_true p41
                                                              replace q41 := eq_true q41
                                                              have HP45 := Kd.R_putn HO_9.out (x10_2 : Int) (wrap64 ((rd x9_3 x10_2) + (rd x9_3 (ji38))))
                                                              rw [← Ny141.out] at HP45
                                                              have HQ45 := Aside0.mk HP45
                                                              clear HP45
                                                              refine start_ (n := 33) (S := fun w' => w'.cell? ⟨go15, (x10_2).toNat, none⟩ = some (.int .i64 (rd x9_3 x10_2)) ∧ w'.cell? ad133 = some (.int .i64 (rd t130 0)) ∧ w'.cell? ⟨ad133.block, ad133.off + 1, none⟩ = some (.int .i64 (rd t130 1)) ∧ w'.cell? ⟨ad133.block, ad133.off + 2, none⟩ = some (.int .i64 (rd t130 2)) ∧ w'.cell? ⟨go15, ((ji38)).toNat, none⟩ = some (.int .i64 (rd x9_3 (ji38)))) (ds := [32]) #[false, false, false, false, false, false, false, false, false, false, false, false, false, false, false, false, false, false, false, false, false, false, false, false, false, false, false, false, false, false, false, false, false] (by kernel_rfl) rfl rfl ⟨hx136_0, hx137_0, hx138_0, hx139_0, hx140_0⟩ (fun hHeld => ?_); refine with_tabW spec_CountByLetters.tab15 spec_CountByLetters.bits15 (fun HT_ HW_ => ?_)
                                                              generalize w42.drew = w44 at HO_9 HO132 HB HQ45 hf41_0 hx136_0 hx137_0 hx138_0 hx139_0 hx140_0 hx41_0 hHeld ⊢
                                                              refine pure_ (i := 0) (N := some 91) (v := ?_) (a' := ?_) #[true, false, false, false, false, false, false, false, false, false, false, false, false, false, false, false, false, false, false, false, false, false, false, false, false, false, false, false, false, false, false, false, false] rfl rfl (any_of HT_.out (by kernel_rfl)) (fun _ _ _ h => h) (Or.inl ⟨by rfl, ?_⟩) ?_ ?_
                                                              rotate_left
                                                              · intro w'
                                                                go_simp
                                                                with_reducible rfl
                                                              rotate_left
                                                              · simp only [Act.put, List.setIfInBounds_toArray, List.set_cons_zero, List.set_cons_succ, i64_w, i32_w]
                                                                rfl
                                                              refine pure_ (i := 1) (N := some 92) (v := ?_) (a' := ?_) #[true, true, false, false, false, false, false, false, false, false, false, false, false, false, false, false, false, false, false, false, false, false, false, false, false, false, false, false, false, false, false, false, false] rfl rfl (any_of HT_.out (by kernel_rfl)) (fun _ _ _ h => h) (Or.inl ⟨by rfl, ?_⟩) ?_ ?_
                                                              rotate_left
                                                              · intro w'
                                                                go_simp
                                                                with_reducible rfl
                                                              rotate_left
                                                              · simp only [Act.put, List.setIfInBounds_toArray, List.set_cons_zero, List.set_cons_succ, i64_w, i32_w]
                                                                rfl
                                                              refine pure_ (i := 2) (N := some 93) (v := ?_) (a' := ?_) #[true, true, true, false, false, false, false, false, false, false, false, false, false, false, false, false, false, false, false, false, false, false, false, false, false, false, false, false, false, false, false, false, false] rfl rfl (any_of HT_.out (by kernel_rfl)) (fun _ _ _ h => h) (Or.inl ⟨by rfl, ?_⟩) ?_ ?_
                                                              rotate_left
                                                              · intro w'
                                                                go_simp
                                                                with_reducible rfl
                                                              rotate_left
                                                              · simp only [Act.put, List.setIfInBounds_toArray, List.set_cons_zero, List.set_cons_succ, i64_w, i32_w]
                                                                rfl
                                                              refine pure_ (i := 4) (N := some 95) (v := ?_) (a' := ?_) #[true, true, true, false, true, false, false, false, false, false, false, false, false, false, false, false, false, false, false, false, false, false, false, false, false, false, false, false, false, false, false, false, false] rfl rfl (any_of HT_.out (by kernel_rfl)) (fun _ _ _ h => h) (Or.inl ⟨by rfl, ?_⟩) ?_ ?_
                                                              rotate_left
                                                              · intro w'
                                                                go_simp
                                                                with_reducible rfl
                                                              rotate_left
                                                              · simp only [Act.put, List.setIfInBounds_toArray, List.set_cons_zero, List.set_cons_succ, i64_w, i32_w]
                                                                rfl
                                                              refine pure_ (i := 5) (N := some 96) (v := ?_) (a' := ?_) #[true, true, true, false, true, true, false, false, false, false, false, false, false, false, false, false, false, false, false, false, false, false, false, false, false, false, false, false, false, false, false, false, false] rfl rfl (any_of HT_.out (by kernel_rfl)) (fun _ _ _ h => h) (Or.inl ⟨by rfl, ?_⟩) ?_ ?_
                                                              rotate_left
                                                              · intro w'
                                                                go_simp
                                                                with_reducible rfl
                                                              rotate_left
                                                              · simp only [Act.put, List.setIfInBounds_toArray, List.set_cons_zero, List.set_cons_succ, i64_w, i32_w]
                                                                rfl
                                                              refine pure_ (i := 6) (N := some 97) (v := ?_) (a' := ?_) #[true, true, true, false, true, true, true, false, false, false, false, false, false, false, false, false, false, false, false, false, false, false, false, false, false, false, false, false, false, false, false, false, false] rfl rfl (any_of HT_.out (by kernel_rfl)) (fun _ _ _ h => h) (Or.inl ⟨by rfl, ?_⟩) ?_ ?_
                                                              rotate_left
                                                              · intro w'
                                                                go_simp
                                                                with_reducible rfl
                                                              rotate_left
                                                              · simp only [Act.put, List.setIfInBounds_toArray, List.set_cons_zero, List.set_cons_succ, i64_w, i32_w]
                                                                rfl
                                                              refine pure_ (i := 7) (N := some 98) (v := ?_) (a' := ?_) #[true, true, true, false, true, true, true, true, false, false, false, false, false, false, false, false, false, false, false, false, false, false, false, false, false, false, false, false, false, false, false, false, false] rfl rfl (any_of HT_.out (by kernel_rfl)) (fun _ _ _ h => h) (Or.inl ⟨by rfl, ?_⟩) ?_ ?_
                                                              rotate_left
                                                              · intro w'
                                                                go_simp
                                                                with_reducible rfl
                                                              rotate_left
                                                              · simp only [Act.put, List.setIfInBounds_toArray, List.set_cons_zero, List.set_cons_succ, i64_w, i32_w]
                                                                rfl
                                                              refine pure_ (i := 10) (N := some 101) (v := ?_) (a' := ?_) #[true, true, true, false, true, true, true, true, false, false, true, false, false, false, false, false, false, false, false, false, false, false, false, false, false, false, false, false, false, false, false, false, false] rfl rfl (any_of HT_.out (by kernel_rfl)) (fun _ _ _ h => h) (Or.inl ⟨by rfl, ?_⟩) ?_ ?_
                                                              rotate_left
                                                              · intro w'
                                                                go_simp
                                                                with_reducible rfl
                                                              rotate_left
                                                              · simp only [Act.put, List.setIfInBounds_toArray, List.set_cons_zero, List.set_cons_succ, i64_w, i32_w]
                                                                rfl
                                                              refine pure_ (i := 12) (N := some 103) (v := ?_) (a' := ?_) #[true, true, true, false, true, true, true, true, false, false, true, false, true, false, false, false, false, false, false, false, false, false, false, false, false, false, false, false, false, false, false, false, false] rfl rfl (any_of HT_.out (by kernel_rfl)) (fun _ _ _ h => h) (Or.inl ⟨by rfl, ?_⟩) ?_ ?_
                                                              rotate_left
                                                              · intro w'
                                                                go_simp
                                                                with_reducible rfl
                                                              rotate_left
                                                              · simp only [Act.put, List.setIfInBounds_toArray, List.set_cons_zero, List.set_cons_succ, i64_w, i32_w]
                                                                rfl
                                                              refine pure_ (i := 14) (N := some 105) (v := ?_) (a' := ?_) #[true, true, true, false, true, true, true, true, false, false, true, false, true, false, true, false, false, false, false, false, false, false, false, false, false, false, false, false, false, false, false, false, false] rfl rfl (any_of HT_.out (by kernel_rfl)) (fun _ _ _ h => h) (Or.inl ⟨by rfl, ?_⟩) ?_ ?_
                                                              rotate_left
                                                              · intro w'
                                                                go_simp
                                                                with_reducible rfl
                                                              rotate_left
                                                              · simp only [Act.put, List.setIfInBounds_toArray, List.set_cons_zero, List.set_cons_succ, i64_w, i32_w]
                                                                rfl
                                                              refine pure_ (i := 15) (N := some 106) (v := ?_) (a' := ?_) #[true, true, true, false, true, true, true, true, false, false, true, false, true, false, true, true, false, false, false, false, false, false, false, false, false, false, false, false, false, false, false, false, false] rfl rfl (any_of HT_.out (by kernel_rfl)) (fun _ _ _ h => h) (Or.inl ⟨by rfl, ?_⟩) ?_ ?_
                                                              rotate_left
                                                              · intro w'
                                                                go_simp
                                                                with_reducible rfl
                                                              rotate_left
                                                              · simp only [Act.put, List.setIfInBounds_toArray, List.set_cons_zero, List.set_cons_succ, i64_w, i32_w]
                                                                rfl
                                                              refine pure_ (i := 16) (N := some 107) (v := ?_) (a' := ?_) #[true, true, true, false, true, true, true, true, false, false, true, false, true, false, true, true, true, false, false, false, false, false, false, false, false, false, false, false, false, false, false, false, false] rfl rfl (any_of HT_.out (by kernel_rfl)) (fun _ _ _ h => h) (Or.inl ⟨by rfl, ?_⟩) ?_ ?_
                                                              rotate_left
                                                              · intro w'
                                                                go_simp
                                                                with_reducible rfl
                                                              rotate_left
                                                              · simp only [Act.put, List.setIfInBounds_toArray, List.set_cons_zero, List.set_cons_succ, i64_w, i32_w]
                                                                rfl
                                                              refine pure_ (i := 19) (N := some 110) (v := ?_) (a' := ?_) #[true, true, true, false, true, true, true, true, false, false, true, false, true, false, true, true, true, false, false, true, false, false, false, false, false, false, false, false, false, false, false, false, false] rfl rfl (any_of HT_.out (by kernel_rfl)) (fun _ _ _ h => h) (Or.inl ⟨by rfl, ?_⟩) ?_ ?_
                                                              rotate_left
                                                              · intro w'
                                                                go_simp
                                                                with_reducible rfl
                                                              rotate_left
                                                              · simp only [Act.put, List.setIfInBounds_toArray, List.set_cons_zero, List.set_cons_succ, i64_w, i32_w]
                                                                rfl
                                                              refine pure_ (i := 22) (N := some 113) (v := ?_) (a' := ?_) #[true, true, true, false, true, true, true, true, false, false, true, false, true, false, true, true, true, false, false, true, false, false, true, false, false, false, false, false, false, false, false, false, false] rfl rfl (any_of HT_.out (by kernel_rfl)) (fun _ _ _ h => h) (Or.inl ⟨by rfl, ?_⟩) ?_ ?_
                                                              rotate_left
                                                              · intro w'
                                                                go_simp
                                                                with_reducible rfl
                                                              rotate_left
                                                              · simp only [Act.put, List.setIfInBounds_toArray, List.set_cons_zero, List.set_cons_succ, i64_w, i32_w]
                                                                rfl
                                                              refine pure_ (i := 24) (N := some 115) (v := ?_) (a' := ?_) #[true, true, true, false, true, true, true, true, false, false, true, false, true, false, true, true, true, false, false, true, false, false, true, false, true, false, false, false, false, false, false, false, false] rfl rfl (any_of HT_.out (by kernel_rfl)) (fun _ _ _ h => h) (Or.inl ⟨by rfl, ?_⟩) ?_ ?_
                                                              rotate_left
                                                              · intro w'
                                                                go_simp
                                                                with_reducible rfl
                                                              rotate_left
                                                              · simp only [Act.put, List.setIfInBounds_toArray, List.set_cons_zero, List.set_cons_succ, i64_w, i32_w]
                                                                rfl
                                                              refine pure_ (i := 25) (N := some 116) (v := ?_) (a' := ?_) #[true, true, true, false, true, true, true, true, false, false, true, false, true, false, true, true, true, false, false, true, false, false, true, false, true, true, false, false, false, false, false, false, false] rfl rfl (any_of HT_.out (by kernel_rfl)) (fun _ _ _ h => h) (Or.inl ⟨by rfl, ?_⟩) ?_ ?_
                                                              rotate_left
                                                              · intro w'
                                                                go_simp
                                                                with_reducible rfl
                                                              rotate_left
                                                              · simp only [Act.put, List.setIfInBounds_toArray, List.set_cons_zero, List.set_cons_succ, i64_w, i32_w]
                                                                rfl
                                                              refine take_ (i := 3) (N := some 94) (v := ?_) (a' := ?_) #[true, true, true, true, true, true, true, true, false, false, true, false, true, false, true, true, true, false, false, true, false, false, true, false, true, true, false, false, false, false, false, false, false] rfl rfl (take_ofW HT_.out HW_.out (by kernel_rfl)) (fun _ _ _ h => h) (Or.inl ⟨by rfl, ?_⟩) hHeld ?_ ?_
                                                              rotate_left
                                                              · rintro w' ⟨s0, s1, s2, s3, s4⟩
                                                                go_simp
                                                                with_reducible rfl
                                                              rotate_left
                                                              · simp only [Act.put, List.setIfInBounds_toArray, List.set_cons_zero, List.set_cons_succ, i64_w, i32_w]
                                                                rfl
                                                              refine take_ (i := 8) (N := some 99) (v := ?_) (a' := ?_) #[true, true, true, true, true, true, true, true, true, false, true, false, true, false, true, true, true, false, false, true, false, false, true, false, true, true, false, false, false, false, false, false, false] rfl rfl (take_ofW HT_.out HW_.out (by kernel_rfl)) (fun _ _ _ h => h) (Or.inl ⟨by rfl, ?_⟩) hHeld ?_ ?_
                                                              rotate_left
                                                              · rintro w' ⟨s0, s1, s2, s3, s4⟩
                                                                go_simp
                                                                with_reducible rfl
                                                              rotate_left
                                                              · simp only [Act.put, List.setIfInBounds_toArray, List.set_cons_zero, List.set_cons_succ, i64_w, i32_w]
                                                                rfl
                                                              refine pure_ (i := 9) (N := some 100) (v := ?_) (a' := ?_) #[true, true, true, true, true, true, true, true, true, true, true, false, true, false, true, true, true, false, false, true, false, false, true, false, true, true, false, false, false, false, false, false, false] rfl rfl (any_of HT_.out (by kernel_rfl)) (fun _ _ _ h => h) (Or.inl ⟨by rfl, ?_⟩) ?_ ?_
                                                              rotate_left
                                                              · intro w'
                                                                go_simp
                                                                with_reducible rfl
                                                              rotate_left
                                                              · simp only [Act.put, List.setIfInBounds_toArray, List.set_cons_zero, List.set_cons_succ, i64_w, i32_w]
                                                                rfl
                                                              refine pure_ (i := 11) (N := some 102) (v := ?_) (a' := ?_) #[true, true, true, true, true, true, true, true, true, true, true, true, true, false, true, true, true, false, false, true, false, false, true, false, true, true, false, false, false, false, false, false, false] rfl rfl (any_of HT_.out (by kernel_rfl)) (fun _ _ _ h => h) (Or.inl ⟨by rfl, ?_⟩) ?_ ?_
                                                              rotate_left
                                                              · intro w'
                                                                go_simp
                                                                with_reducible rfl
                                                              rotate_left
                                                              · simp only [Act.put, List.setIfInBounds_toArray, List.set_cons_zero, List.set_cons_succ, i64_w, i32_w]
                                                                rfl
                                                              refine pure_ (i := 13) (N := some 104) (v := ?_) (a' := ?_) #[true, true, true, true, true, true, true, true, true, true, true, true, true, true, true, true, true, false, false, true, false, false, true, false, true, true, false, false, false, false, false, false, false] rfl rfl (any_of HT_.out (by kernel_rfl)) (fun _ _ _ h => h) (Or.inl ⟨by rfl, ?_⟩) ?_ ?_
                                                              rotate_left
                                                              · intro w'
                                                                go_simp
                                                                with_reducible rfl
                                                              rotate_left
                                                              · simp only [Act.put, List.setIfInBounds_toArray, List.set_cons_zero, List.set_cons_succ, i64_w, i32_w]
                                                                rfl
                                                              refine take_ (i := 17) (N := some 108) (v := ?_) (a' := ?_) #[true, true, true, true, true, true, true, true, true, true, true, true, true, true, true, true, true, true, false, true, false, false, true, false, true, true, false, false, false, false, false, false, false] rfl rfl (take_ofW HT_.out HW_.out (by kernel_rfl)) (fun _ _ _ h => h) (Or.inl ⟨by rfl, ?_⟩) hHeld ?_ ?_
                                                              rotate_left
                                                              · rintro w' ⟨s0, s1, s2, s3, s4⟩
                                                                go_simp
                                                                with_reducible rfl
                                                              rotate_left
                                                              · simp only [Act.put, List.setIfInBounds_toArray, List.set_cons_zero, List.set_cons_succ, i64_w, i32_w]
                                                                rfl
                                                              refine pure_ (i := 18) (N := some 109) (v := ?_) (a' := ?_) #[true, true, true, true, true, true, true, true, true, true, true, true, true, true, true, true, true, true, true, true, false, false, true, false, true, true, false, false, false, false, false, false, false] rfl rfl (any_of HT_.out (by kernel_rfl)) (fun _ _ _ h => h) (Or.inl ⟨by rfl, ?_⟩) ?_ ?_
                                                              rotate_left
                                                              · intro w'
                                                                go_simp
                                                                with_reducible rfl
                                                              rotate_left
                                                              · simp only [Act.put, List.setIfInBounds_toArray, List.set_cons_zero, List.set_cons_succ, i64_w, i32_w]
                                                                rfl
                                                              refine pure_ (i := 20) (N := some 111) (v := ?_) (a' := ?_) #[true, true, true, true, true, true, true, true, true, true, true, true, true, true, true, true, true, true, true, true, true, false, true, false, true, true, false, false, false, false, false, false, false] rfl rfl (any_of HT_.out (by kernel_rfl)) (fun _ _ _ h => h) (Or.inl ⟨by rfl, ?_⟩) ?_ ?_
                                                              rotate_left
                                                              · intro w'
                                                                go_simp
                                                                with_reducible rfl
                                                              rotate_left
                                                              · simp only [Act.put, List.setIfInBounds_toArray, List.set_cons_zero, List.set_cons_succ, i64_w, i32_w]
                                                                rfl
                                                              refine pure_ (i := 21) (N := some 112) (v := ?_) (a' := ?_) #[true, true, true, true, true, true, true, true, true, true, true, true, true, true, true, true, true, true, true, true, true, true, true, false, true, true, false, false, false, false, false, false, false] rfl rfl (any_of HT_.out (by kernel_rfl)) (fun _ _ _ h => h) (Or.inl ⟨by rfl, ?_⟩) ?_ ?_
                                                              rotate_left
                                                              · intro w'
                                                                go_simp
                                                                with_reducible rfl
                                                              rotate_left
                                                              · simp only [Act.put, List.setIfInBounds_toArray, List.set_cons_zero, List.set_cons_succ, i64_w, i32_w]
                                                                rfl
                                                              refine pure_ (i := 23) (N := some 114) (v := ?_) (a' := ?_) #[true, true, true, true, true, true, true, true, true, true, true, true, true, true, true, true, true, true, true, true, true, true, true, true, true, true, false, false, false, false, false, false, false] rfl rfl (any_of HT_.out (by kernel_rfl)) (fun _ _ _ h => h) (Or.inl ⟨by rfl, ?_⟩) ?_ ?_
                                                              rotate_left
                                                              · intro w'
                                                                go_simp
                                                                with_reducible rfl
                                                              rotate_left
                                                              · simp only [Act.put, List.setIfInBounds_toArray, List.set_cons_zero, List.set_cons_succ, i64_w, i32_w]
                                                                rfl
                                                              refine take_ (i := 26) (N := some 117) (v := ?_) (a' := ?_) #[true, true, true, true, true, true, true, true, true, true, true, true, true, true, true, true, true, true, true, true, true, true, true, true, true, true, true, false, false, false, false, false, false] rfl rfl (take_ofW HT_.out HW_.out (by kernel_rfl)) (fun _ _ _ h => h) (Or.inl ⟨by rfl, ?_⟩) hHeld ?_ ?_
                                                              rotate_left
                                                              · rintro w' ⟨s0, s1, s2, s3, s4⟩
                                                                go_simp
                                                                with_reducible rfl
                                                              rotate_left
                                                              · simp only [Act.put, List.setIfInBounds_toArray, List.set_cons_zero, List.set_cons_succ, i64_w, i32_w]
                                                                rfl
                                                              refine pure_ (i := 27) (N := some 118) (v := ?_) (a' := ?_) #[true, true, true, true, true, true, true, true, true, true, true, true, true, true, true, true, true, true, true, true, true, true, true, true, true, true, true, true, false, false, false, false, false] rfl rfl (any_of HT_.out (by kernel_rfl)) (fun _ _ _ h => h) (Or.inl ⟨by rfl, ?_⟩) ?_ ?_
                                                              rotate_left
                                                              · intro w'
                                                                go_simp
                                                                with_reducible rfl
                                                              rotate_left
                                                              · simp only [Act.put, List.setIfInBounds_toArray, List.set_cons_zero, List.set_cons_succ, i64_w, i32_w]
                                                                rfl
                                                              refine pure_ (i := 28) (N := some 119) (v := ?_) (a' := ?_) #[true, true, true, true, true, true, true, true, true, true, true, true, true, true, true, true, true, true, true, true, true, true, true, true, true, true, true, true, true, false, false, false, false] rfl rfl (any_of HT_.out (by kernel_rfl)) (fun _ _ _ h => h) (Or.inl ⟨by rfl, ?_⟩) ?_ ?_
                                                              rotate_left
                                                              · intro w'
                                                                go_simp
                                                                with_reducible rfl
                                                              rotate_left
                                                              · simp only [Act.put, List.setIfInBounds_toArray, List.set_cons_zero, List.set_cons_succ, i64_w, i32_w]
                                                                rfl
                                                              refine take_ (i := 29) (N := some 120) (v := ?_) (a' := ?_) #[true, true, true, true, true, true, true, true, true, true, true, true, true, true, true, true, true, true, true, true, true, true, true, true, true, true, true, true, true, true, false, false, false] rfl rfl (take_ofW HT_.out HW_.out (by kernel_rfl)) (fun _ _ _ h => h) (Or.inl ⟨by rfl, ?_⟩) hHeld ?_ ?_
                                                              rotate_left
                                                              · rintro w' ⟨s0, s1, s2, s3, s4⟩
                                                                go_simp
                                                                with_reducible rfl
                                                              rotate_left
                                                              · simp only [Act.put, List.setIfInBounds_toArray, List.set_cons_zero, List.set_cons_succ, i64_w, i32_w]
                                                                rfl
                                                              refine pure_ (i := 30) (N := some 121) (v := ?_) (a' := ?_) #[true, true, true, true, true, true, true, true, true, true, true, true, true, true, true, true, true, true, true, true, true, true, true, true, true, true, true, true, true, true, true, false, false] rfl rfl (any_of HT_.out (by kernel_rfl)) (fun _ _ _ h => h) (Or.inl ⟨by rfl, ?_⟩) ?_ ?_
                                                              rotate_left
                                                              · intro w'
                                                                go_simp
                                                                with_reducible rfl
                                                              rotate_left
                                                              · simp only [Act.put, List.setIfInBounds_toArray, List.set_cons_zero, List.set_cons_succ, i64_w, i32_w]
                                                                rfl
                                                              refine pure_ (i := 31) (N := some 122) (v := ?_) (a' := ?_) #[true, true, true, true, true, true, true, true, true, true, true, true, true, true, true, true, true, true, true, true, true, true, true, true, true, true, true, true, true, true, true, true, false] rfl rfl (any_of HT_.out (by kernel_rfl)) (fun _ _ _ h => h) (Or.inl ⟨by rfl, ?_⟩) ?_ ?_
                                                              rotate_left
                                                              · intro w'
                                                                go_simp
                                                                with_reducible rfl
                                                              rotate_left
                                                              · simp only [Act.put, List.setIfInBounds_toArray, List.set_cons_zero, List.set_cons_succ, i64_w, i32_w]
                                                                rfl
                                                              refine last_ (i := 32) (N := none) #[true, true, true, true, true, true, true, true, true, true, true, true, true, true, true, true, true, true, true, true, true, true, true, true, true, true, true, true, true, true, true, true, true] rfl rfl (one_of HT_.out (by kernel_rfl)) (by decide) (fun K hK => ?_)
                                                              refine skip_ (w1 := ?_) (by rfl) rfl ?_ ?_
                                                              rotate_left
                                                              · go_simp
                                                                rfl
                                                              refine hK.out _ _ ?_
                                                              clear hK K
                                                              refine done_ (done_of HT_.out (by kernel_rfl)) ?_
                                                              try go_wp2
                                                              (try simp only [← hl9_3])
                                                              first | go_roundg k3 | (simp only [← hji11, ← hji38]; go_roundg k3)
                                                              case measure => have := HJ2.out; have := HK2.out; have := HK3.out; omega
                                                              case rel => exact ⟨(y141), (wrap64 (x66_3 + 1)), (by first | rfl | (simp; done) | (simp [*]; done) | (simp only [IntWalk.i64_left]; done) | (simp [IntWalk.i64_left]; done) | (simp [*, IntWalk.i64_left]; done)), H', ⟨by have := HJ2.out; have := HK2.out; have := HK3.out; omega⟩, ⟨by (try simp only [hl9_2]); (try simp only [hl9_3]); (with_reducible repeat (first | apply Kd.R_alloc | apply Kd.R_drewN | apply Kd.R_drew)); exact Kd.R_mono HQ45.out (fun _ hk => trivial)⟩, ⟨by repeat (first | (with_reducible first | exact HB.out | apply below_alloc | apply pw_below_drewN | apply below_drew1 | refine below_set ?_ GB15.out) | exact HB.out)⟩⟩
                                                            · rw [if_neg c40] at H
                                                              exact absurd H (by simp)
                                                          · rw [if_neg c39] at H
                                                            exact absurd H (by simp)
                                                        · rw [if_neg c37] at H
                                                          exact absurd H (by simp)
                                                      · rw [if_neg c36] at H
                                                        exact absurd H (by simp)
                                                    · rw [if_neg c35] at H
                                                      have c35b0 : decide ((rd t130 2) ≤ (Int.tmod x10_2 (wrap64 ((rd l1 2) + 1)))) = false := decide_eq_false c35
                                                      (try (have c35h0 := c35b0; simp only [hl9_2, hl9_3] at c35h0))
                                                      clear c35
                                                      have H' := Aside0.mk H
                                                      clear H
                                                      have p129 : 0 ≤ (x66_3 : Int) := of_decide_eq_true (by first | (with_reducible assumption) | assumption)
                                                      have q129 : x66_3 < (l0.length : Int) := of_decide_eq_true (by first | (with_reducible assumption) | assumption)
                                                      obtain ⟨ad129, e129, hx129_0⟩ := Kd.at_string HR0.out x66_3 p129 q129
                                                      cases e129
                                                      (try replace hx129_0 := (HB.out.cell (World.block_lt_of_cell? w _ hx129_0)).trans hx129_0)
                                                      replace p129 := eq_true p129
                                                      replace q129 := eq_true q129
                                                      go_wp2_with (first | ((with_reducible refine gate_callee (f := 21) rfl ?_); refine goesL_ (some 71) rfl rfl Tryd.func21 (by kernel_rfl) rfl #[.string (rdOf ByteArray.empty l0 x66_3)] rfl (by (try simp only [List.map_toArray, List.map_cons, List.map_nil]); first | done | rfl | (simp only [List.length_drop, List.length_take]; rfl)) ?_; (with_reducible refine (spec_wdLetters.calls k3 (rdOf ByteArray.empty l0 x66_3) t130 _ A29.out).mono ?_); rintro e w46 ⟨v131, rfl, ho0, hb⟩; refine ⟨_, rfl, ?_⟩; have n0_ := Aside0.mk (Kd.R_elder' (by (with_reducible repeat (first | apply Kd.R_alloc | apply Kd.R_drewN | apply Kd.R_drew)); exact HO_9.out) (Kd.R_base ho0) hb); have n1_ := Aside0.mk (Kd.R_lower (Kd.R_new' ho0 (Kd.R_lt (by (with_reducible repeat (first | apply Kd.R_alloc | apply Kd.R_drewN | apply Kd.R_drew)); exact HO_9.out))) (below_size (by repeat (first | (with_reducible first | exact HB.out | apply below_alloc | apply pw_below_drewN | apply below_drew1) | exact HB.out)))); have n2_ := Aside0.mk (below_step (by repeat (first | (with_reducible first | exact HB.out | apply below_alloc | apply pw_below_drewN | apply below_drew1) | exact HB.out)) hb); clear HO_9; clear HB; have HO_9 := n0_; have HO132 := n1_; have HB := n2_; clear n0_ n1_ n2_; (try clear hb); (try clear hb2); (try clear hk); (try clear hi); (try clear ho0); obtain ⟨Ao47, co47, eo47⟩ := Kd.R_slice HO132.out; subst eo47; have p133 : 0 ≤ (0 : Int) := (by omega); have q133 : 0 < (t130.length : Int) := of_decide_eq_true (by first | (with_reducible assumption) | assumption); obtain ⟨ad133, e133, hx133_0⟩ := Kd.at_int (Kd.R_reads' HO132.out).2.2 0 p133 q133; cases e133; have qi133 : (0 < t130.length) = True := eq_true (by omega); (try rw [show ((0 : Int)).toNat = 0 from rfl] at hx133_0); (try rw [Addr.add_zero'] at hx133_0); replace p133 := eq_true p133; replace q133 := eq_true q133; have p134 : 0 ≤ (1 : Int) := (by omega); have q134 : 1 < (t130.length : Int) := of_decide_eq_true (by first | (with_reducible assumption) | assumption); obtain ⟨ad134, e134, hx134_0⟩ := Kd.at_int (Kd.R_reads' HO132.out).2.2 1 p134 q134; obtain rfl : ad133 = ad134 := (by injection e134); (try simp only [show (1 : Int).toNat = 1 from rfl, Nat.reduceMul, Nat.reduceEqDiff, Go.Addr.add, ↓reduceIte] at hx134_0); have qi134 : (1 < t130.length) = True := eq_true (by omega); (try rw [show ((1 : Int)).toNat = 1 from rfl] at hx134_0); replace p134 := eq_true p134; replace q134 := eq_true q134; have p135 : 0 ≤ (2 : Int) := (by omega); have q135 : 2 < (t130.length : Int) := of_decide_eq_true (by first | (with_reducible assumption) | assumption); obtain ⟨ad135, e135, hx135_0⟩ := Kd.at_int (Kd.R_reads' HO132.out).2.2 2 p135 q135; obtain rfl : ad133 = ad135 := (by injection e135); (try simp only [show (2 : Int).toNat = 2 from rfl, Nat.reduceMul, Nat.reduceEqDiff, Go.Addr.add, ↓reduceIte] at hx135_0); have qi135 : (2 < t130.length) = True := eq_true (by omega); (try rw [show ((2 : Int)).toNat = 2 from rfl] at hx135_0); replace p135 := eq_true p135; replace q135 := eq_true q135))
                                                      (try simp only [← hl9_3])
                                                      first | go_roundg k3 | (simp only [← hji11]; go_roundg k3)
                                                      case measure => have := HJ2.out; have := HK2.out; have := HK3.out; omega
                                                      case rel => exact ⟨(x9_3), (wrap64 (x66_3 + 1)), (by first | rfl | (simp; done) | (simp [*]; done) | (simp only [IntWalk.i64_left]; done) | (simp [IntWalk.i64_left]; done) | (simp [*, IntWalk.i64_left]; done)), H', ⟨by have := HJ2.out; have := HK2.out; have := HK3.out; omega⟩, ⟨by (try simp only [hl9_2]); (try simp only [hl9_3]); (with_reducible repeat (first | apply Kd.R_alloc | apply Kd.R_drewN | apply Kd.R_drew)); exact Kd.R_mono HO_9.out (fun _ hk => trivial)⟩, ⟨by repeat (first | (with_reducible first | exact HB.out | apply below_alloc | apply pw_below_drewN | apply below_drew1) | exact HB.out)⟩⟩
                                                  · rw [if_neg c34] at H
                                                    exact absurd H (by simp)
                                                · rw [if_neg c33] at H
                                                  have c33b0 : decide ((rd t130 1) ≤ (Int.tmod (wrap64 (Int.tdiv x10_2 (wrap64 ((rd l1 2) + 1)))) (wrap64 ((rd l1 1) + 1)))) = false := decide_eq_false c33
                                                  (try (have c33h0 := c33b0; simp only [hl9_2, hl9_3] at c33h0))
                                                  clear c33
                                                  have H' := Aside0.mk H
                                                  clear H
                                                  have p129 : 0 ≤ (x66_3 : Int) := of_decide_eq_true (by first | (with_reducible assumption) | assumption)
                                                  have q129 : x66_3 < (l0.length : Int) := of_decide_eq_true (by first | (with_reducible assumption) | assumption)
                                                  obtain ⟨ad129, e129, hx129_0⟩ := Kd.at_string HR0.out x66_3 p129 q129
                                                  cases e129
                                                  (try replace hx129_0 := (HB.out.cell (World.block_lt_of_cell? w _ hx129_0)).trans hx129_0)
                                                  replace p129 := eq_true p129
                                                  replace q129 := eq_true q129
                                                  go_wp2_with (first | ((with_reducible refine gate_callee (f := 21) rfl ?_); refine goesL_ (some 71) rfl rfl Tryd.func21 (by kernel_rfl) rfl #[.string (rdOf ByteArray.empty l0 x66_3)] rfl (by (try simp only [List.map_toArray, List.map_cons, List.map_nil]); first | done | rfl | (simp only [List.length_drop, List.length_take]; rfl)) ?_; (with_reducible refine (spec_wdLetters.calls k3 (rdOf ByteArray.empty l0 x66_3) t130 _ A29.out).mono ?_); rintro e w48 ⟨v131, rfl, ho0, hb⟩; refine ⟨_, rfl, ?_⟩; have n0_ := Aside0.mk (Kd.R_elder' (by (with_reducible repeat (first | apply Kd.R_alloc | apply Kd.R_drewN | apply Kd.R_drew)); exact HO_9.out) (Kd.R_base ho0) hb); have n1_ := Aside0.mk (Kd.R_lower (Kd.R_new' ho0 (Kd.R_lt (by (with_reducible repeat (first | apply Kd.R_alloc | apply Kd.R_drewN | apply Kd.R_drew)); exact HO_9.out))) (below_size (by repeat (first | (with_reducible first | exact HB.out | apply below_alloc | apply pw_below_drewN | apply below_drew1) | exact HB.out)))); have n2_ := Aside0.mk (below_step (by repeat (first | (with_reducible first | exact HB.out | apply below_alloc | apply pw_below_drewN | apply below_drew1) | exact HB.out)) hb); clear HO_9; clear HB; have HO_9 := n0_; have HO132 := n1_; have HB := n2_; clear n0_ n1_ n2_; (try clear hb); (try clear hb2); (try clear hk); (try clear hi); (try clear ho0); obtain ⟨Ao49, co49, eo49⟩ := Kd.R_slice HO132.out; subst eo49; have p133 : 0 ≤ (0 : Int) := (by omega); have q133 : 0 < (t130.length : Int) := of_decide_eq_true (by first | (with_reducible assumption) | assumption); obtain ⟨ad133, e133, hx133_0⟩ := Kd.at_int (Kd.R_reads' HO132.out).2.2 0 p133 q133; cases e133; have qi133 : (0 < t130.length) = True := eq_true (by omega); (try rw [show ((0 : Int)).toNat = 0 from rfl] at hx133_0); (try rw [Addr.add_zero'] at hx133_0); replace p133 := eq_true p133; replace q133 := eq_true q133; have p134 : 0 ≤ (1 : Int) := (by omega); have q134 : 1 < (t130.length : Int) := of_decide_eq_true (by first | (with_reducible assumption) | assumption); obtain ⟨ad134, e134, hx134_0⟩ := Kd.at_int (Kd.R_reads' HO132.out).2.2 1 p134 q134; obtain rfl : ad133 = ad134 := (by injection e134); (try simp only [show (1 : Int).toNat = 1 from rfl, Nat.reduceMul, Nat.reduceEqDiff, Go.Addr.add, ↓reduceIte] at hx134_0); have qi134 : (1 < t130.length) = True := eq_true (by omega); (try rw [show ((1 : Int)).toNat = 1 from rfl] at hx134_0); replace p134 := eq_true p134; replace q134 := eq_true q134))
                                                  (try simp only [← hl9_3])
                                                  first | go_roundg k3 | (simp only [← hji11]; go_roundg k3)
                                                  case measure => have := HJ2.out; have := HK2.out; have := HK3.out; omega
                                                  case rel => exact ⟨(x9_3), (wrap64 (x66_3 + 1)), (by first | rfl | (simp; done) | (simp [*]; done) | (simp only [IntWalk.i64_left]; done) | (simp [IntWalk.i64_left]; done) | (simp [*, IntWalk.i64_left]; done)), H', ⟨by have := HJ2.out; have := HK2.out; have := HK3.out; omega⟩, ⟨by (try simp only [hl9_2]); (try simp only [hl9_3]); (with_reducible repeat (first | apply Kd.R_alloc | apply Kd.R_drewN | apply Kd.R_drew)); exact Kd.R_mono HO_9.out (fun _ hk => trivial)⟩, ⟨by repeat (first | (with_reducible first | exact HB.out | apply below_alloc | apply pw_below_drewN | apply below_drew1) | exact HB.out)⟩⟩
                                              · rw [if_neg c32] at H
                                                exact absurd H (by simp)
                                            · rw [if_neg c31] at H
                                              have c31b0 : decide ((rd t130 0) ≤ (wrap64 (Int.tdiv x10_2 (wrap64 ((wrap64 ((rd l1 1) + 1)) * (wrap64 ((rd l1 2) + 1))))))) = false := decide_eq_false c31
                                              (try (have c31h0 := c31b0; simp only [hl9_2, hl9_3] at c31h0))
                                              clear c31
                                              have H' := Aside0.mk H
                                              clear H
                                              have p129 : 0 ≤ (x66_3 : Int) := of_decide_eq_true (by first | (with_reducible assumption) | assumption)
                                              have q129 : x66_3 < (l0.length : Int) := of_decide_eq_true (by first | (with_reducible assumption) | assumption)
                                              obtain ⟨ad129, e129, hx129_0⟩ := Kd.at_string HR0.out x66_3 p129 q129
                                              cases e129
                                              (try replace hx129_0 := (HB.out.cell (World.block_lt_of_cell? w _ hx129_0)).trans hx129_0)
                                              replace p129 := eq_true p129
                                              replace q129 := eq_true q129
                                              go_wp2_with (first | ((with_reducible refine gate_callee (f := 21) rfl ?_); refine goesL_ (some 71) rfl rfl Tryd.func21 (by kernel_rfl) rfl #[.string (rdOf ByteArray.empty l0 x66_3)] rfl (by (try simp only [List.map_toArray, List.map_cons, List.map_nil]); first | done | rfl | (simp only [List.length_drop, List.length_take]; rfl)) ?_; (with_reducible refine (spec_wdLetters.calls k3 (rdOf ByteArray.empty l0 x66_3) t130 _ A29.out).mono ?_); rintro e w50 ⟨v131, rfl, ho0, hb⟩; refine ⟨_, rfl, ?_⟩; have n0_ := Aside0.mk (Kd.R_elder' (by (with_reducible repeat (first | apply Kd.R_alloc | apply Kd.R_drewN | apply Kd.R_drew)); exact HO_9.out) (Kd.R_base ho0) hb); have n1_ := Aside0.mk (Kd.R_lower (Kd.R_new' ho0 (Kd.R_lt (by (with_reducible repeat (first | apply Kd.R_alloc | apply Kd.R_drewN | apply Kd.R_drew)); exact HO_9.out))) (below_size (by repeat (first | (with_reducible first | exact HB.out | apply below_alloc | apply pw_below_drewN | apply below_drew1) | exact HB.out)))); have n2_ := Aside0.mk (below_step (by repeat (first | (with_reducible first | exact HB.out | apply below_alloc | apply pw_below_drewN | apply below_drew1) | exact HB.out)) hb); clear HO_9; clear HB; have HO_9 := n0_; have HO132 := n1_; have HB := n2_; clear n0_ n1_ n2_; (try clear hb); (try clear hb2); (try clear hk); (try clear hi); (try clear ho0); obtain ⟨Ao51, co51, eo51⟩ := Kd.R_slice HO132.out; subst eo51; have p133 : 0 ≤ (0 : Int) := (by omega); have q133 : 0 < (t130.length : Int) := of_decide_eq_true (by first | (with_reducible assumption) | assumption); obtain ⟨ad133, e133, hx133_0⟩ := Kd.at_int (Kd.R_reads' HO132.out).2.2 0 p133 q133; cases e133; have qi133 : (0 < t130.length) = True := eq_true (by omega); (try rw [show ((0 : Int)).toNat = 0 from rfl] at hx133_0); (try rw [Addr.add_zero'] at hx133_0); replace p133 := eq_true p133; replace q133 := eq_true q133))
                                              (try simp only [← hl9_3])
                                              first | go_roundg k3 | (simp only [← hji11]; go_roundg k3)
                                              case measure => have := HJ2.out; have := HK2.out; have := HK3.out; omega
                                              case rel => exact ⟨(x9_3), (wrap64 (x66_3 + 1)), (by first | rfl | (simp; done) | (simp [*]; done) | (simp only [IntWalk.i64_left]; done) | (simp [IntWalk.i64_left]; done) | (simp [*, IntWalk.i64_left]; done)), H', ⟨by have := HJ2.out; have := HK2.out; have := HK3.out; omega⟩, ⟨by (try simp only [hl9_2]); (try simp only [hl9_3]); (with_reducible repeat (first | apply Kd.R_alloc | apply Kd.R_drewN | apply Kd.R_drew)); exact Kd.R_mono HO_9.out (fun _ hk => trivial)⟩, ⟨by repeat (first | (with_reducible first | exact HB.out | apply below_alloc | apply pw_below_drewN | apply below_drew1) | exact HB.out)⟩⟩
                                          · rw [if_neg c30] at H
                                            exact absurd H (by simp)
                                        · rw [if_neg c28] at H
                                          exact absurd H (by simp)
                                      · rw [if_neg c27] at H
                                        exact absurd H (by simp)
                                    · rw [if_neg c26] at H
                                      have c26b0 : decide (x66_3 < (l0.length : Int)) = false := decide_eq_false c26
                                      (try (have c26h0 := c26b0; simp only [hl9_2, hl9_3] at c26h0))
                                      clear c26
                                      have H' := Aside0.mk H
                                      clear H
                                      go_wp2
                                      (try simp only [← hl9_2, ← hl9_3])
                                      first | go_roundg k3 | (simp only [← hji11]; go_roundg k3)
                                      case measure => have := HJ2.out; have := HK2.out; have := HK3.out; omega
                                      case rel => exact ⟨(x9_3), (wrap64 (x10_2 + 1)), (by first | rfl | (simp; done) | (simp [*]; done) | (simp only [IntWalk.i64_left]; done) | (simp [IntWalk.i64_left]; done) | (simp [*, IntWalk.i64_left]; done)), H', ⟨by have := HJ2.out; have := HK2.out; have := HK3.out; omega⟩, ⟨by (try simp only [hl9_2]); (try simp only [hl9_3]); (with_reducible repeat (first | apply Kd.R_alloc | apply Kd.R_drewN | apply Kd.R_drew)); exact HO_9.out⟩, ⟨by repeat (first | (with_reducible first | exact HB.out | apply below_alloc | apply pw_below_drewN | apply below_drew1) | exact HB.out)⟩⟩
                        · rw [if_neg c21] at H
                          have c21b0 : decide (x10_2 < (x9_2.length : Int)) = false := decide_eq_false c21
                          (try (have c21h0 := c21b0; simp only [hl9_2] at c21h0))
                          clear c21
                          obtain ⟨ji52, hji52⟩ : ∃ j_ : Int, (wrap64 ((x9_2.length : Int) - 1)) = j_ := ⟨_, rfl⟩
                          replace H : (if 0 ≤ (ji52) then (if (ji52) < (x9_2.length : Int) then (some (rd x9_2 (ji52), true)) else (none)) else (none)) = some (r1, r2) := by first | (rw [hji52] at H; exact H) | (simp only [hji52] at H ⊢; exact H)
                          have hji52w : (IntKind.i64.wrap ((x9_2.length : Int) - 1)) = ji52 := (i64_w _).trans hji52
                          by_cases c53 : 0 ≤ (ji52)
                          · rw [if_pos c53] at H
                            have c53b0 : decide (0 ≤ (ji52)) = true := decide_eq_true c53
                            (try (have c53h0 := c53b0; simp only [hl9_2] at c53h0))
                            clear c53
                            by_cases c54 : (ji52) < (x9_2.length : Int)
                            · rw [if_pos c54] at H
                              have c54b0 : decide ((ji52) < (x9_2.length : Int)) = true := decide_eq_true c54
                              (try (have c54h0 := c54b0; simp only [hl9_2] at c54h0))
                              clear c54
                              simp only [Option.some.injEq, Prod.mk.injEq] at H
                              obtain ⟨rfl, rfl⟩ := H
                              have p128 : 0 ≤ ((ji52) : Int) := of_decide_eq_true (by first | (with_reducible assumption) | assumption)
                              have q128 : (ji52) < (x9_2.length : Int) := of_decide_eq_true (by first | (with_reducible assumption) | assumption)
                              obtain ⟨ad128, e128, hx128_0⟩ := Kd.at_int (Kd.R_reads' HO_9.out).2.2 (ji52) p128 q128
                              obtain rfl : (⟨go15, 0, none⟩ : Addr) = ad128 := (by injection e128)
                              (first | simp only [add_plain] at hx128_0 | simp only [add_at] at hx128_0 | simp only [Addr.add, Nat.zero_add] at hx128_0 | skip)
                              replace p128 := eq_true p128
                              replace q128 := eq_true q128
                              go_wp2
                              go_ret2
                              exact ⟨by first | rfl | (simp [errW_none, errW_some] <;> rfl) | (simp only [← hji11, ← hji52]; first | rfl | (simp [errW_none, errW_some] <;> rfl)) | (simp [*, errW_none, errW_some] <;> rfl), by repeat (first | (with_reducible first | exact HB.out | apply below_alloc | apply pw_below_drewN | apply below_drew1) | exact HB.out)⟩
                            · rw [if_neg c54] at H
                              exact absurd H (by simp)
                          · rw [if_neg c53] at H
                            exact absurd H (by simp)
                  · rw [if_neg c14] at H
                    exact absurd H (by simp)
                · rw [if_neg c13] at H
                  exact absurd H (by simp)
              · rw [if_neg c12] at H
                exact absurd H (by simp)
            · rw [if_neg c10] at H
              exact absurd H (by simp)
          · rw [if_neg c9] at H
            exact absurd H (by simp)
        · rw [if_neg c8] at H
          exact absurd H (by simp)

end Go.Proofs.YtfmkhjoelcbnnaaDoor.XFnExactCountByLetters
