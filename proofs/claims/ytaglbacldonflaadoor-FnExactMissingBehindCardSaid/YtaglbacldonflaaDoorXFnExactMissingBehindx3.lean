-- Written by a program of this session (wip/xprint.py), which follows the kit's print; no kit file.
import Derived.Test.YtaglbacldonflaaDoorXFnExactMissingBehindx0
import Derived.Test.YtaglbacldonflaaDoorXFnExactMissingBehindx2
namespace Go.Proofs.YtaglbacldonflaaDoor.XFnExactMissingBehind
open Go.RowKit Go.Proofs.YtaglbacldonflaaDoor.Hand Go.Proofs.YtaglbacldonflaaDoorW.PrintWords Go.Proofs.YtaglbacldonflaaDoorW.PrintLast Go.Proofs.YtaglbacldonflaaDoorW.PrintMore
attribute [local go_sem] max2_int min2_int max_two min_two max_three min_three max_four min_four   -- for this text's walks alone
set_option linter.unusedVariables false
set_option linter.unusedSimpArgs false

/-! ### spec_MissingBehind: function 19 -/
mutual
def spec_MissingBehind.j0 : Nat → List ByteArray → ByteArray → Bool → Option (List ByteArray × Bool)
  | 0, _, _, _ => none
  | k + 1, x0, x1, x26 => if x26 = true then (some (([] : List ByteArray), false)) else (spec_MissingBehind.l0 k x0 ([] : List ByteArray) (([x1] : List ByteArray)) 0)
def spec_MissingBehind.l0 : Nat → List ByteArray → List ByteArray → List ByteArray → Int → Option (List ByteArray × Bool)
  | 0, _, _, _, _ => none
  | k + 1, x0, x6, x7, x8 => if x8 < (x7.length : Int) then (if 0 ≤ x8 then (if (rdOf ByteArray.empty x7 x8).toList = ([] : List UInt8) then ((spec_wdPut.f k x6 (⟨#[]⟩ : ByteArray)).bind fun t183 => (spec_MissingBehind.l0 k x0 t183 x7 (wrap64 (x8 + 1)))) else (spec_MissingBehind.l1 k x0 x6 x7 x8 x0 (x0.length : Int) 0)) else (none)) else (spec_MissingBehind.l2 k ([] : List ByteArray) x6 (x6.length : Int) 0)
def spec_MissingBehind.l1 : Nat → List ByteArray → List ByteArray → List ByteArray → Int → List ByteArray → Int → Int → Option (List ByteArray × Bool)
  | 0, _, _, _, _, _, _, _ => none
  | k + 1, x0, x6, x7, x8, x42, x43, x44 => if x44 < x43 then (if 0 ≤ x44 then (if x44 < (x42.length : Int) then (if 0 ≤ x8 then (if x8 < (x7.length : Int) then ((spec_wdBegins.f (rdOf ByteArray.empty x42 x44) (rdOf ByteArray.empty x7 x8)).bind fun t188 => (if t188 = true then (if 0 ≤ ((rdOf ByteArray.empty x7 x8).size : Int) then (if ((rdOf ByteArray.empty x7 x8).size : Int) ≤ ((rdOf ByteArray.empty x42 x44).size : Int) then ((spec_wdPut.f k x6 ((rdOf ByteArray.empty x42 x44).extract ((rdOf ByteArray.empty x7 x8).size) (rdOf ByteArray.empty x42 x44).size)).bind fun t190 => (spec_MissingBehind.l1 k x0 t190 x7 x8 x42 x43 (wrap64 (x44 + 1)))) else (none)) else (none)) else ((spec_wdBegins.f (rdOf ByteArray.empty x7 x8) (rdOf ByteArray.empty x42 x44)).bind fun t194 => (if t194 = true then (if 0 ≤ ((rdOf ByteArray.empty x42 x44).size : Int) then (if ((rdOf ByteArray.empty x42 x44).size : Int) ≤ ((rdOf ByteArray.empty x7 x8).size : Int) then ((spec_wdHas.f k x7 ((rdOf ByteArray.empty x7 x8).extract ((rdOf ByteArray.empty x42 x44).size) (rdOf ByteArray.empty x7 x8).size)).bind fun t196 => (if t196 = true then (spec_MissingBehind.l1 k x0 x6 x7 x8 x42 x43 (wrap64 (x44 + 1))) else (if x7.length < 8796093022208 then (spec_MissingBehind.l1 k x0 x6 (x7 ++ [(rdOf ByteArray.empty x7 x8).extract ((rdOf ByteArray.empty x42 x44).size) (rdOf ByteArray.empty x7 x8).size]) x8 x42 x43 (wrap64 (x44 + 1))) else (none)))) else (none)) else (none)) else (spec_MissingBehind.l1 k x0 x6 x7 x8 x42 x43 (wrap64 (x44 + 1))))))) else (none)) else (none)) else (none)) else (none)) else (spec_MissingBehind.l0 k x0 x6 x7 (wrap64 (x8 + 1)))
def spec_MissingBehind.l2 : Nat → List ByteArray → List ByteArray → Int → Int → Option (List ByteArray × Bool)
  | 0, _, _, _, _ => none
  | k + 1, x11, x92, x93, x94 => if x94 < x93 then (if 0 ≤ x94 then (if x94 < (x92.length : Int) then (spec_MissingBehind.l3 k x11 (rdOf ByteArray.empty x92 x94) true x92 x93 x94 x11 (x11.length : Int) 0) else (none)) else (none)) else (if (x11.length : Int) > 12 then (some (([] : List ByteArray), false)) else (some (x11, true)))
def spec_MissingBehind.l3 : Nat → List ByteArray → ByteArray → Bool → List ByteArray → Int → Int → List ByteArray → Int → Int → Option (List ByteArray × Bool)
  | 0, _, _, _, _, _, _, _, _, _ => none
  | k + 1, x11, x13, x14, x92, x93, x94, x98, x99, x100 => if x100 < x99 then (if 0 ≤ x100 then (if x100 < (x98.length : Int) then (if x14 = true then ((spec_wdBegins.f x13 (rdOf ByteArray.empty x98 x100)).bind fun t203 => (spec_MissingBehind.l3 k x11 x13 (!t203) x92 x93 x94 x98 x99 (wrap64 (x100 + 1)))) else (spec_MissingBehind.l3 k x11 x13 false x92 x93 x94 x98 x99 (wrap64 (x100 + 1)))) else (none)) else (none)) else (if x14 = true then (if x11.length < 8796093022208 then (spec_MissingBehind.l2 k (x11 ++ [x13]) x92 x93 (wrap64 (x94 + 1))) else (none)) else (spec_MissingBehind.l2 k x11 x92 x93 (wrap64 (x94 + 1))))
end
def spec_MissingBehind.f (k : Nat) (l0 : List ByteArray) (a1 : ByteArray) : Option (List ByteArray × Bool) := (spec_dcAsked.f k l0 a1).bind fun t177 => (if t177 = true then ((spec_dlIs.f k l0 a1).bind fun t178 => (spec_MissingBehind.j0 k l0 a1 (!t178))) else (spec_MissingBehind.j0 k l0 a1 true))
theorem spec_MissingBehind.mono_l : ∀ k, (∀ y0 y1 y2, LeO (spec_MissingBehind.j0 k y0 y1 y2) (spec_MissingBehind.j0 (k + 1) y0 y1 y2)) ∧ (∀ y0 y1 y2 y3, LeO (spec_MissingBehind.l0 k y0 y1 y2 y3) (spec_MissingBehind.l0 (k + 1) y0 y1 y2 y3)) ∧ (∀ y0 y1 y2 y3 y4 y5 y6, LeO (spec_MissingBehind.l1 k y0 y1 y2 y3 y4 y5 y6) (spec_MissingBehind.l1 (k + 1) y0 y1 y2 y3 y4 y5 y6)) ∧ (∀ y0 y1 y2 y3, LeO (spec_MissingBehind.l2 k y0 y1 y2 y3) (spec_MissingBehind.l2 (k + 1) y0 y1 y2 y3)) ∧ (∀ y0 y1 y2 y3 y4 y5 y6 y7 y8, LeO (spec_MissingBehind.l3 k y0 y1 y2 y3 y4 y5 y6 y7 y8) (spec_MissingBehind.l3 (k + 1) y0 y1 y2 y3 y4 y5 y6 y7 y8))
  | 0 => ⟨fun _ _ _ r h => by simp [spec_MissingBehind.j0] at h, fun _ _ _ _ r h => by simp [spec_MissingBehind.l0] at h, fun _ _ _ _ _ _ _ r h => by simp [spec_MissingBehind.l1] at h, fun _ _ _ _ r h => by simp [spec_MissingBehind.l2] at h, fun _ _ _ _ _ _ _ _ _ r h => by simp [spec_MissingBehind.l3] at h⟩
  | k + 1 => by
    obtain ⟨ih0, ih1, ih2, ih3, ih4⟩ := spec_MissingBehind.mono_l k
    refine ⟨?_, ?_, ?_, ?_, ?_⟩
    · intro y0 y1 y2
      unfold spec_MissingBehind.j0
      repeat' first
      | (with_reducible exact ih0 _ _ _)
      | (with_reducible exact ih1 _ _ _ _)
      | (with_reducible exact ih2 _ _ _ _ _ _ _)
      | (with_reducible exact ih3 _ _ _ _)
      | (with_reducible exact ih4 _ _ _ _ _ _ _ _ _)
      | (with_reducible exact spec_dcAsked.mono _ _ _)
      | (with_reducible exact spec_dlIs.mono _ _ _)
      | (with_reducible exact spec_wdHas.mono _ _ _)
      | (with_reducible exact spec_wdPut.mono _ _ _)
      | (with_reducible exact LeO.refl _)
      | (with_reducible exact LeO.none _)
      | (with_reducible refine LeO.ite ?_ ?_)
      | (with_reducible refine LeO.bind ?_ (fun _ => ?_))
      | exact ih0 _ _ _
      | exact ih1 _ _ _ _
      | exact ih2 _ _ _ _ _ _ _
      | exact ih3 _ _ _ _
      | exact ih4 _ _ _ _ _ _ _ _ _
      | exact spec_dcAsked.mono _ _ _
      | exact spec_dlIs.mono _ _ _
      | exact spec_wdHas.mono _ _ _
      | exact spec_wdPut.mono _ _ _
      | exact LeO.none _
      | refine LeO.ite ?_ ?_
      | refine LeO.bind ?_ (fun _ => ?_)
    · intro y0 y1 y2 y3
      unfold spec_MissingBehind.l0
      repeat' first
      | (with_reducible exact ih0 _ _ _)
      | (with_reducible exact ih1 _ _ _ _)
      | (with_reducible exact ih2 _ _ _ _ _ _ _)
      | (with_reducible exact ih3 _ _ _ _)
      | (with_reducible exact ih4 _ _ _ _ _ _ _ _ _)
      | (with_reducible exact spec_dcAsked.mono _ _ _)
      | (with_reducible exact spec_dlIs.mono _ _ _)
      | (with_reducible exact spec_wdHas.mono _ _ _)
      | (with_reducible exact spec_wdPut.mono _ _ _)
      | (with_reducible exact LeO.refl _)
      | (with_reducible exact LeO.none _)
      | (with_reducible refine LeO.ite ?_ ?_)
      | (with_reducible refine LeO.bind ?_ (fun _ => ?_))
      | exact ih0 _ _ _
      | exact ih1 _ _ _ _
      | exact ih2 _ _ _ _ _ _ _
      | exact ih3 _ _ _ _
      | exact ih4 _ _ _ _ _ _ _ _ _
      | exact spec_dcAsked.mono _ _ _
      | exact spec_dlIs.mono _ _ _
      | exact spec_wdHas.mono _ _ _
      | exact spec_wdPut.mono _ _ _
      | exact LeO.none _
      | refine LeO.ite ?_ ?_
      | refine LeO.bind ?_ (fun _ => ?_)
    · intro y0 y1 y2 y3 y4 y5 y6
      unfold spec_MissingBehind.l1
      repeat' first
      | (with_reducible exact ih0 _ _ _)
      | (with_reducible exact ih1 _ _ _ _)
      | (with_reducible exact ih2 _ _ _ _ _ _ _)
      | (with_reducible exact ih3 _ _ _ _)
      | (with_reducible exact ih4 _ _ _ _ _ _ _ _ _)
      | (with_reducible exact spec_dcAsked.mono _ _ _)
      | (with_reducible exact spec_dlIs.mono _ _ _)
      | (with_reducible exact spec_wdHas.mono _ _ _)
      | (with_reducible exact spec_wdPut.mono _ _ _)
      | (with_reducible exact LeO.refl _)
      | (with_reducible exact LeO.none _)
      | (with_reducible refine LeO.ite ?_ ?_)
      | (with_reducible refine LeO.bind ?_ (fun _ => ?_))
      | exact ih0 _ _ _
      | exact ih1 _ _ _ _
      | exact ih2 _ _ _ _ _ _ _
      | exact ih3 _ _ _ _
      | exact ih4 _ _ _ _ _ _ _ _ _
      | exact spec_dcAsked.mono _ _ _
      | exact spec_dlIs.mono _ _ _
      | exact spec_wdHas.mono _ _ _
      | exact spec_wdPut.mono _ _ _
      | exact LeO.none _
      | refine LeO.ite ?_ ?_
      | refine LeO.bind ?_ (fun _ => ?_)
    · intro y0 y1 y2 y3
      unfold spec_MissingBehind.l2
      repeat' first
      | (with_reducible exact ih0 _ _ _)
      | (with_reducible exact ih1 _ _ _ _)
      | (with_reducible exact ih2 _ _ _ _ _ _ _)
      | (with_reducible exact ih3 _ _ _ _)
      | (with_reducible exact ih4 _ _ _ _ _ _ _ _ _)
      | (with_reducible exact spec_dcAsked.mono _ _ _)
      | (with_reducible exact spec_dlIs.mono _ _ _)
      | (with_reducible exact spec_wdHas.mono _ _ _)
      | (with_reducible exact spec_wdPut.mono _ _ _)
      | (with_reducible exact LeO.refl _)
      | (with_reducible exact LeO.none _)
      | (with_reducible refine LeO.ite ?_ ?_)
      | (with_reducible refine LeO.bind ?_ (fun _ => ?_))
      | exact ih0 _ _ _
      | exact ih1 _ _ _ _
      | exact ih2 _ _ _ _ _ _ _
      | exact ih3 _ _ _ _
      | exact ih4 _ _ _ _ _ _ _ _ _
      | exact spec_dcAsked.mono _ _ _
      | exact spec_dlIs.mono _ _ _
      | exact spec_wdHas.mono _ _ _
      | exact spec_wdPut.mono _ _ _
      | exact LeO.none _
      | refine LeO.ite ?_ ?_
      | refine LeO.bind ?_ (fun _ => ?_)
    · intro y0 y1 y2 y3 y4 y5 y6 y7 y8
      unfold spec_MissingBehind.l3
      repeat' first
      | (with_reducible exact ih0 _ _ _)
      | (with_reducible exact ih1 _ _ _ _)
      | (with_reducible exact ih2 _ _ _ _ _ _ _)
      | (with_reducible exact ih3 _ _ _ _)
      | (with_reducible exact ih4 _ _ _ _ _ _ _ _ _)
      | (with_reducible exact spec_dcAsked.mono _ _ _)
      | (with_reducible exact spec_dlIs.mono _ _ _)
      | (with_reducible exact spec_wdHas.mono _ _ _)
      | (with_reducible exact spec_wdPut.mono _ _ _)
      | (with_reducible exact LeO.refl _)
      | (with_reducible exact LeO.none _)
      | (with_reducible refine LeO.ite ?_ ?_)
      | (with_reducible refine LeO.bind ?_ (fun _ => ?_))
      | exact ih0 _ _ _
      | exact ih1 _ _ _ _
      | exact ih2 _ _ _ _ _ _ _
      | exact ih3 _ _ _ _
      | exact ih4 _ _ _ _ _ _ _ _ _
      | exact spec_dcAsked.mono _ _ _
      | exact spec_dlIs.mono _ _ _
      | exact spec_wdHas.mono _ _ _
      | exact spec_wdPut.mono _ _ _
      | exact LeO.none _
      | refine LeO.ite ?_ ?_
      | refine LeO.bind ?_ (fun _ => ?_)
theorem spec_MissingBehind.mono : ∀ a0 a1 k, LeO (spec_MissingBehind.f k a0 a1) (spec_MissingBehind.f (k + 1) a0 a1) := by
  intro a0 a1 k
  obtain ⟨ih0, ih1, ih2, ih3, ih4⟩ := spec_MissingBehind.mono_l k
  unfold spec_MissingBehind.f
  repeat' first
      | (with_reducible exact ih0 _ _ _)
      | (with_reducible exact ih1 _ _ _ _)
      | (with_reducible exact ih2 _ _ _ _ _ _ _)
      | (with_reducible exact ih3 _ _ _ _)
      | (with_reducible exact ih4 _ _ _ _ _ _ _ _ _)
      | (with_reducible exact spec_dcAsked.mono _ _ _)
      | (with_reducible exact spec_dlIs.mono _ _ _)
      | (with_reducible exact spec_wdHas.mono _ _ _)
      | (with_reducible exact spec_wdPut.mono _ _ _)
      | (with_reducible exact LeO.refl _)
      | (with_reducible exact LeO.none _)
      | (with_reducible refine LeO.ite ?_ ?_)
      | (with_reducible refine LeO.bind ?_ (fun _ => ?_))
      | exact ih0 _ _ _
      | exact ih1 _ _ _ _
      | exact ih2 _ _ _ _ _ _ _
      | exact ih3 _ _ _ _
      | exact ih4 _ _ _ _ _ _ _ _ _
      | exact spec_dcAsked.mono _ _ _
      | exact spec_dlIs.mono _ _ _
      | exact spec_wdHas.mono _ _ _
      | exact spec_wdPut.mono _ _ _
      | exact LeO.none _
      | refine LeO.ite ?_ ?_
      | refine LeO.bind ?_ (fun _ => ?_)
set_option maxHeartbeats 8000000 in
set_option maxRecDepth 100000 in
theorem spec_MissingBehind.calls (k : Nat) (A0 : Option Addr) (c0 : Nat) (l0 : List ByteArray) (a1 : ByteArray) (r1 : List ByteArray) (r2 : Bool) (w : World) (hr0 : Kd.C Kd.string w A0 l0.length l0) (hc0 : l0.length ≤ c0) (h : spec_MissingBehind.f k l0 a1 = some (r1, r2)) :
    Calls Tryd.prog 19 #[.slice A0 l0.length c0, .string a1] w fun e w' => ∃ v0_ : Value, e = .returned (.tuple #[v0_, .bool r2]) ∧ Kd.R Kd.string 9 w' w.heap.size (fun _ => True) v0_ r1 ∧ Below w.heap.size w w' := by
  have HR0 := Aside0.mk hr0
  have HC0 := Aside0.mk hc0
  clear hr0 hc0
  have HB := Aside0.mk (Below.refl w.heap.size w)
  have H : ((spec_dcAsked.f k l0 a1).bind fun t177 => (if t177 = true then ((spec_dlIs.f k l0 a1).bind fun t178 => (spec_MissingBehind.j0 k l0 a1 (!t178))) else (spec_MissingBehind.j0 k l0 a1 true))) = some (r1, r2) := h
  clear h
  have HC3 := Aside0.mk H
  clear H
  go_enter Tryd.func19, Tryd.ntmps19
  go_upto_region 1 with (fail)
  go_cut [26] (fun v26 wc => ∃ (kq : Nat) (x26_2 : Bool), v26 = .bool x26_2 ∧ Aside0 (spec_MissingBehind.j0 kq l0 a1 x26_2 = some (r1, r2)) ∧ Aside0 (kq ≤ k) ∧ Aside0 (Below w.heap.size w wc))
  case first =>
    have H := HC3.out
    clear HC3
    replace H := Option.bind_eq_some_iff.mp H
    obtain ⟨t177, A40, H⟩ := H
    replace H : (if t177 = true then ((spec_dlIs.f k l0 a1).bind fun t178 => (spec_MissingBehind.j0 k l0 a1 (!t178))) else (spec_MissingBehind.j0 k l0 a1 true)) = some (r1, r2) := H
    have A4 := Aside0.mk A40
    clear A40
    by_cases c5 : t177 = true
    · subst c5
      have H1 : ((spec_dlIs.f k l0 a1).bind fun t178 => (spec_MissingBehind.j0 k l0 a1 (!t178))) = some (r1, r2) := by rw [if_pos rfl] at H; exact H
      clear H
      have H := H1
      clear H1
      replace H := Option.bind_eq_some_iff.mp H
      obtain ⟨t178, A60, H⟩ := H
      replace H : (spec_MissingBehind.j0 k l0 a1 (!t178)) = some (r1, r2) := H
      have A6 := Aside0.mk A60
      clear A60
      have H' := Aside0.mk H
      clear H
      go_wp2_with (first | ((with_reducible refine gate_callee (f := 44) rfl ?_); refine goesL_ (some 19) rfl rfl Tryd.func44 (by kernel_rfl) rfl #[.slice A0 l0.length c0, .string a1] rfl (by (try simp only [List.map_toArray, List.map_cons, List.map_nil]); first | done | rfl | (simp only [List.length_drop, List.length_take]; rfl)) ?_; (with_reducible refine (spec_dcAsked.calls k _ _ l0 a1 true _ ?side1 ?side2 A4.out).mono ?_); (case side1 => repeat (first | exact (Kd.C_below HR0.out HB.out) | (with_reducible refine Kd.C_alloc ?_ _) | (with_reducible refine Kd.C_drewN ?_ _) | (with_reducible refine Kd.C_drew ?_))); (case side2 => exact HC0.out); rintro e w' ⟨rfl, ⟨nd, rfl⟩⟩; refine ⟨_, rfl, ?_⟩) | (go_at_call 45; (with_reducible refine (spec_dlIs.calls k _ _ l0 a1 t178 _ ?side1 ?side2 A6.out).mono ?_); (case side1 => repeat (first | exact (Kd.C_below HR0.out (by repeat (first | (with_reducible first | exact HB.out | apply below_alloc | apply pw_below_drewN | apply below_drew1) | exact HB.out))) | (with_reducible refine Kd.C_alloc ?_ _) | (with_reducible refine Kd.C_drewN ?_ _) | (with_reducible refine Kd.C_drew ?_))); (case side2 => exact HC0.out); rintro e w7 ⟨rfl, hb⟩; have n0_ := Aside0.mk (below_step (by repeat (first | (with_reducible first | exact HB.out | apply below_alloc | apply pw_below_drewN | apply below_drew1) | exact HB.out)) hb); clear HB; have HB := n0_; clear n0_; (try clear hb); (try clear hb2); (try clear hk); (try clear hi)))
      go_meet
      case rel => exact ⟨_, (!t178), (by first | rfl | (simp; done) | (simp [*]; done) | (simp only [IntWalk.i64_left]; done) | (simp [IntWalk.i64_left]; done) | (simp [*, IntWalk.i64_left]; done)), H', ⟨by first | omega | exact Nat.le_refl _⟩, ⟨by repeat (first | (with_reducible first | exact HB.out | apply below_alloc | apply pw_below_drewN | apply below_drew1) | exact HB.out)⟩⟩
    · replace c5 := Bool.eq_false_iff.mpr c5
      subst c5
      have H1 : (spec_MissingBehind.j0 k l0 a1 true) = some (r1, r2) := by rw [if_neg (show ¬ (false = true) by decide)] at H; exact H
      clear H
      have H := H1
      clear H1
      have H' := Aside0.mk H
      clear H
      go_wp2_with (first | ((with_reducible refine gate_callee (f := 44) rfl ?_); refine goesL_ (some 19) rfl rfl Tryd.func44 (by kernel_rfl) rfl #[.slice A0 l0.length c0, .string a1] rfl (by (try simp only [List.map_toArray, List.map_cons, List.map_nil]); first | done | rfl | (simp only [List.length_drop, List.length_take]; rfl)) ?_; (with_reducible refine (spec_dcAsked.calls k _ _ l0 a1 false _ ?side1 ?side2 A4.out).mono ?_); (case side1 => repeat (first | exact (Kd.C_below HR0.out HB.out) | (with_reducible refine Kd.C_alloc ?_ _) | (with_reducible refine Kd.C_drewN ?_ _) | (with_reducible refine Kd.C_drew ?_))); (case side2 => exact HC0.out); rintro e w' ⟨rfl, ⟨nd, rfl⟩⟩; refine ⟨_, rfl, ?_⟩))
      go_meet
      case rel => exact ⟨_, (true), (by first | rfl | (simp; done) | (simp [*]; done) | (simp only [IntWalk.i64_left]; done) | (simp [IntWalk.i64_left]; done) | (simp [*, IntWalk.i64_left]; done)), H', ⟨by first | omega | exact Nat.le_refl _⟩, ⟨by repeat (first | (with_reducible first | exact HB.out | apply below_alloc | apply pw_below_drewN | apply below_drew1) | exact HB.out)⟩⟩
  case rest =>
    clear HC3
    try clear c1
    try clear p2
    try clear c4
    try clear c5
    obtain ⟨kq, x26_2, rfl, HA, HJ2, HB⟩ := hcut
    cases kq with
    | zero => exact absurd HA.out (by simp [spec_MissingBehind.j0])
    | succ kj2 =>
      have H := HA.out
      clear HA
      simp only [spec_MissingBehind.j0] at H
      by_cases c8 : x26_2 = true
      · subst c8
        have H1 : (some (([] : List ByteArray), false)) = some (r1, r2) := by rw [if_pos rfl] at H; exact H
        clear H
        have H := H1
        clear H1
        simp only [Option.some.injEq, Prod.mk.injEq] at H
        obtain ⟨rfl, rfl⟩ := H
        go_wp2
        go_ret2
        exact ⟨_, by first | rfl | (simp [errW_none, errW_some] <;> rfl) | (simp [*, errW_none, errW_some] <;> rfl; done) | (generalize ByteArray.toList _ = q_; cases q_ <;> rfl), by first | exact Kd.R_nil _ _ _ _ _ | exact Kd.N_nil _ _ _ _ _ | exact Kd.V_nil _ _ _ _ _ | exact Kd.Q_nil _ _ _ _ _ | exact Kd.S_nil _ _ _ _ _, by repeat (first | (with_reducible first | exact HB.out | apply below_alloc | apply pw_below_drewN | apply below_drew1) | exact HB.out)⟩
      · replace c8 := Bool.eq_false_iff.mpr c8
        subst c8
        have H1 : (spec_MissingBehind.l0 kj2 l0 ([] : List ByteArray) (([a1] : List ByteArray)) 0) = some (r1, r2) := by rw [if_neg (show ¬ (false = true) by decide)] at H; exact H
        clear H
        have H := H1
        clear H1
        obtain ⟨y179, hy179⟩ : ∃ y_ : List ByteArray, y_ = (([a1] : List ByteArray)) := ⟨_, rfl⟩
        replace H : (spec_MissingBehind.l0 kj2 l0 ([] : List ByteArray) y179 0) = some (r1, r2) := by first | (rw [hy179]; with_reducible exact H) | (have H2_ := (Option.bind_some _ _).symm.trans H; rw [hy179]; with_reducible exact H2_) | (have H2_ := (Option.bind_some _ _).symm.trans H; with_reducible exact H2_) | with_reducible exact H | (rw [hy179]; exact H) | exact H
        have Ny179 := Aside0.mk hy179
        clear hy179
        have H' := Aside0.mk H
        clear H
        go_wp2_with (first | ((with_reducible refine gate_dst (N := 28) rfl ?_); (try (refine gate_guard (by rfl) ?_; dsimp only)); refine Kd.R_lit Kd.string _ 9 ?hg (N := 28) ?hd (xs := ([a1] : List ByteArray)) (inner := [.string a1]) (ok := fun _ => True) (okp := fun _ => True) ?hr ?hp (fun _ hk => hk) trivial (Below.refl _ _) (Nat.le_refl _) (by simp) ?_; (case hd => rfl); (case hg => rfl); (case hr => first | (go_simp; done) | (go_simp; rfl)); (case hp => exact (Reps.one (show Kd.M Kd.string _ _ _ a1 [.string a1] from rfl) (Reps.none _ _))); intro v180 w9 ho10 hb hg_ hnew_; clear hg_ hnew_; (first | rw [← Ny179.out] at ho10 | (simp only [Int.reduceToNat] at ho10; rw [← Ny179.out] at ho10)); have n0_ := Aside0.mk (Kd.R_lower ho10 (below_size (by repeat (first | (with_reducible first | exact HB.out | apply below_alloc | apply pw_below_drewN | apply below_drew1) | exact HB.out)))); have n1_ := Aside0.mk (below_step (by repeat (first | (with_reducible first | exact HB.out | apply below_alloc | apply pw_below_drewN | apply below_drew1) | exact HB.out)) hb); clear HB; have HO181 := n0_; have HB := n1_; clear n0_ n1_; clear hb ho10))
        go_loopg [6, 7, 8] kj2 (fun kq v6 v7 v8 w' => ∃ (x6_2 : List ByteArray) (x7_2 : List ByteArray) (x8_2 : Int), v8 = .int .i64 x8_2 ∧ Aside0 (spec_MissingBehind.l0 kq l0 x6_2 x7_2 x8_2 = some (r1, r2)) ∧ Aside0 (kq ≤ kj2) ∧ Aside0 (Kd.R Kd.string 9 w' w.heap.size (fun k_ => some k_ ≠ (v7 : Value).ownBlock) v6 x6_2) ∧ Aside0 (Kd.R Kd.string 9 w' w.heap.size (fun k_ => some k_ ≠ (v6 : Value).ownBlock) v7 x7_2) ∧ Aside0 (Below w.heap.size w w'))
        case atStart => exact ⟨(([] : List ByteArray)), (y179), (0), (by first | rfl | (simp; done) | (simp [*]; done) | (simp only [IntWalk.i64_left]; done) | (simp [IntWalk.i64_left]; done) | (simp [*, IntWalk.i64_left]; done)), H', ⟨Nat.le_refl _⟩, ⟨by first | exact Kd.R_nil _ _ _ _ _ | exact Kd.N_nil _ _ _ _ _ | exact Kd.V_nil _ _ _ _ _ | exact Kd.Q_nil _ _ _ _ _ | exact Kd.S_nil _ _ _ _ _⟩, ⟨by (with_reducible repeat (first | apply Kd.R_alloc | apply Kd.R_drewN | apply Kd.R_drew)); exact Kd.R_mono HO181.out (fun _ hk => (by simp [Value.ownBlock]))⟩, ⟨by repeat (first | (with_reducible first | exact HB.out | apply below_alloc | apply pw_below_drewN | apply below_drew1) | exact HB.out)⟩⟩
        case round =>
          clear H'
          try clear c1
          try clear p2
          try clear c4
          try clear c5
          try clear c8
          try clear p2
          obtain ⟨x6_2, x7_2, x8_2, rfl, HA, HK2, HO_6, HO_7, HB⟩ := hrel
          cases gk with
          | zero => exact absurd HA.out (by simp [spec_MissingBehind.l0])
          | succ k2 =>
            have H := HA.out
            clear HA
            simp only [spec_MissingBehind.l0] at H
            by_cases c11 : x8_2 < (x7_2.length : Int)
            · rw [if_pos c11] at H
              have c11b0 : decide (x8_2 < (x7_2.length : Int)) = true := decide_eq_true c11
              clear c11
              by_cases c12 : 0 ≤ x8_2
              · rw [if_pos c12] at H
                have c12b0 : decide (0 ≤ x8_2) = true := decide_eq_true c12
                clear c12
                by_cases c13 : (rdOf ByteArray.empty x7_2 x8_2).toList = ([] : List UInt8)
                · rw [if_pos c13] at H
                  have c13b0 : ((rdOf ByteArray.empty x7_2 x8_2).toList == ([] : List UInt8)) = true := beq_iff_eq.mpr c13
                  have c13b1 : ((rdOf ByteArray.empty x7_2 x8_2).toList != ([] : List UInt8)) = false := bne_eq_false_iff_eq.mpr c13
                  clear c13
                  replace H := Option.bind_eq_some_iff.mp H
                  obtain ⟨t183, A140, H⟩ := H
                  replace H : (spec_MissingBehind.l0 k2 l0 t183 x7_2 (wrap64 (x8_2 + 1))) = some (r1, r2) := H
                  have A14 := Aside0.mk A140
                  clear A140
                  have H' := Aside0.mk H
                  clear H
                  obtain ⟨Ao15, co15, eo15⟩ := Kd.R_slice HO_7.out
                  subst eo15
                  have p182 : 0 ≤ (x8_2 : Int) := of_decide_eq_true (by first | (with_reducible assumption) | assumption)
                  have q182 : x8_2 < (x7_2.length : Int) := of_decide_eq_true (by first | (with_reducible assumption) | assumption)
                  obtain ⟨ad182, e182, hx182_0⟩ := Kd.at_string (Kd.R_reads' HO_7.out).2.2 x8_2 p182 q182
                  cases e182
                  replace p182 := eq_true p182
                  replace q182 := eq_true q182
                  obtain ⟨Ao16, co16, eo16⟩ := Kd.R_slice HO_6.out
                  subst eo16
                  go_wp2_with (first | ((with_reducible refine gate_callee (f := 46) rfl ?_); refine goesL_ (some 41) rfl rfl Tryd.func46 (by kernel_rfl) rfl #[.slice Ao16 x6_2.length co16, .string (⟨#[]⟩ : ByteArray)] rfl (by (try simp only [List.map_toArray, List.map_cons, List.map_nil]); first | done | rfl | (simp only [List.length_drop, List.length_take]; rfl)) ?_; (with_reducible refine (spec_wdPut.calls k2 (fun k_ => some k_ = (.slice Ao16 x6_2.length co16 : Value).ownBlock) (.slice Ao16 x6_2.length co16) x6_2 (⟨#[]⟩ : ByteArray) t183 w _ ?side1 ?side2 A14.out).mono ?_); (case side1 => repeat (first | (with_reducible first | exact HB.out | apply below_alloc | apply pw_below_drewN | apply below_drew1) | exact HB.out)); (case side2 => exact Kd.R_tight rfl HO_6.out); rintro e w17 ⟨v184, rfl, ho0, hb, hkp⟩; refine ⟨_, rfl, ?_⟩; have n0_ := Aside0.mk (Kd.R_mono (ok' := fun k_ => some k_ ≠ (v184 : Value).ownBlock) (Kd.R_keptB (HO_7.out) hkp (fun k_ hk_ hs_ => (hk_) hs_)) (fun k_ hk_ => fun e_ => Or.elim (ho0.1 k_ e_.symm) (fun hs_ => hk_.2.1 hs_) (fun hn_ => Nat.not_le.2 hk_.2.2 hn_))); have n1_ := Aside0.mk (Kd.R_mono (ok' := fun k_ => some k_ ≠ (.slice (some ad182) x7_2.length co15 : Value).ownBlock) ho0 (fun k_ hk_ => Or.elim hk_ (fun hs_ => fun e_ => (((HO_7.out).1 k_ e_.symm)) hs_) (fun hn_ => (Kd.fresh' (Kd.R_lt (by (with_reducible repeat (first | apply Kd.R_alloc | apply Kd.R_drewN | apply Kd.R_drew)); exact HO_7.out)) k_ hn_)))); have n2_ := Aside0.mk (hb); clear HO_7; clear HB; clear HO_6; have HO_7 := n0_; have HO185 := n1_; have HB := n2_; clear n0_ n1_ n2_; (try clear hb); (try clear hkp); (try clear ho0)))
                  go_roundg k2
                  case measure => have := HJ2.out; have := HK2.out; omega
                  case rel => exact ⟨(t183), (x7_2), (wrap64 (x8_2 + 1)), (by first | rfl | (simp; done) | (simp [*]; done) | (simp only [IntWalk.i64_left]; done) | (simp [IntWalk.i64_left]; done) | (simp [*, IntWalk.i64_left]; done)), H', ⟨by have := HJ2.out; have := HK2.out; omega⟩, ⟨by (with_reducible repeat (first | apply Kd.R_alloc | apply Kd.R_drewN | apply Kd.R_drew)); exact HO185.out⟩, ⟨by (with_reducible repeat (first | apply Kd.R_alloc | apply Kd.R_drewN | apply Kd.R_drew)); exact HO_7.out⟩, ⟨by repeat (first | (with_reducible first | exact HB.out | apply below_alloc | apply pw_below_drewN | apply below_drew1) | exact HB.out)⟩⟩
                · rw [if_neg c13] at H
                  have c13b0 : ((rdOf ByteArray.empty x7_2 x8_2).toList == ([] : List UInt8)) = false := beq_eq_false_iff_ne.mpr c13
                  have c13b1 : ((rdOf ByteArray.empty x7_2 x8_2).toList != ([] : List UInt8)) = true := bne_iff_ne.mpr c13
                  have H' := Aside0.mk H
                  clear H
                  obtain ⟨Ao18, co18, eo18⟩ := Kd.R_slice HO_7.out
                  subst eo18
                  have p182 : 0 ≤ (x8_2 : Int) := of_decide_eq_true (by first | (with_reducible assumption) | assumption)
                  have q182 : x8_2 < (x7_2.length : Int) := of_decide_eq_true (by first | (with_reducible assumption) | assumption)
                  obtain ⟨ad182, e182, hx182_0⟩ := Kd.at_string (Kd.R_reads' HO_7.out).2.2 x8_2 p182 q182
                  cases e182
                  replace p182 := eq_true p182
                  replace q182 := eq_true q182
                  go_wp2
                  go_loopg [6, 7, 44] k2 (fun kq v6 v7 v44 w' => ∃ (x6_3 : List ByteArray) (x7_3 : List ByteArray) (x44_3 : Int), v44 = .int .i64 x44_3 ∧ Aside0 (spec_MissingBehind.l1 kq l0 x6_3 x7_3 x8_2 l0 (l0.length : Int) x44_3 = some (r1, r2)) ∧ Aside0 (kq ≤ k2) ∧ Aside0 (Kd.R Kd.string 9 w' w.heap.size (fun k_ => some k_ ≠ (v7 : Value).ownBlock) v6 x6_3) ∧ Aside0 (Kd.R Kd.string 9 w' w.heap.size (fun k_ => some k_ ≠ (v6 : Value).ownBlock) v7 x7_3) ∧ Aside0 (Below w.heap.size w w'))
                  case atStart => exact ⟨(x6_2), (x7_2), (0), (by first | rfl | (simp; done) | (simp [*]; done) | (simp only [IntWalk.i64_left]; done) | (simp [IntWalk.i64_left]; done) | (simp [*, IntWalk.i64_left]; done)), H', ⟨Nat.le_refl _⟩, ⟨by (with_reducible repeat (first | apply Kd.R_alloc | apply Kd.R_drewN | apply Kd.R_drew)); exact HO_6.out⟩, ⟨by (with_reducible repeat (first | apply Kd.R_alloc | apply Kd.R_drewN | apply Kd.R_drew)); exact HO_7.out⟩, ⟨by repeat (first | (with_reducible first | exact HB.out | apply below_alloc | apply pw_below_drewN | apply below_drew1) | exact HB.out)⟩⟩
                  case round =>
                    clear H'
                    try clear c1
                    try clear p1
                    try clear q1
                    try clear hx1
                    try clear p2
                    try clear c4
                    try clear c5
                    try clear p6
                    try clear c8
                    try clear c11
                    try clear c11b0
                    try clear c12
                    try clear c12b0
                    try clear c13
                    try clear c13b0
                    try clear c13b1
                    try clear p18
                    try clear q18
                    try clear hx18
                    try clear hx182_0
                    try clear p182
                    try clear p2
                    try clear q182
                    obtain ⟨x6_3, x7_3, x44_3, rfl, HA, HK3, HO_6, HO_7, HB⟩ := hrel
                    cases gk with
                    | zero => exact absurd HA.out (by simp [spec_MissingBehind.l1])
                    | succ k3 =>
                      have H := HA.out
                      clear HA
                      simp only [spec_MissingBehind.l1] at H
                      by_cases c19 : x44_3 < (l0.length : Int)
                      · rw [if_pos c19] at H
                        have c19b0 : decide (x44_3 < (l0.length : Int)) = true := decide_eq_true c19
                        clear c19
                        by_cases c20 : 0 ≤ x44_3
                        · rw [if_pos c20] at H
                          have c20b0 : decide (0 ≤ x44_3) = true := decide_eq_true c20
                          clear c20
                          by_cases c21 : x44_3 < (l0.length : Int)
                          · rw [if_pos c21] at H
                            have c21b0 : decide (x44_3 < (l0.length : Int)) = true := decide_eq_true c21
                            clear c21
                            by_cases c22 : 0 ≤ x8_2
                            · rw [if_pos c22] at H
                              have c22b0 : decide (0 ≤ x8_2) = true := decide_eq_true c22
                              clear c22
                              by_cases c23 : x8_2 < (x7_3.length : Int)
                              · rw [if_pos c23] at H
                                have c23b0 : decide (x8_2 < (x7_3.length : Int)) = true := decide_eq_true c23
                                clear c23
                                replace H := Option.bind_eq_some_iff.mp H
                                obtain ⟨t188, A240, H⟩ := H
                                replace H : (if t188 = true then (if 0 ≤ ((rdOf ByteArray.empty x7_3 x8_2).size : Int) then (if ((rdOf ByteArray.empty x7_3 x8_2).size : Int) ≤ ((rdOf ByteArray.empty l0 x44_3).size : Int) then ((spec_wdPut.f k3 x6_3 ((rdOf ByteArray.empty l0 x44_3).extract ((rdOf ByteArray.empty x7_3 x8_2).size) (rdOf ByteArray.empty l0 x44_3).size)).bind fun t190 => (spec_MissingBehind.l1 k3 l0 t190 x7_3 x8_2 l0 (l0.length : Int) (wrap64 (x44_3 + 1)))) else (none)) else (none)) else ((spec_wdBegins.f (rdOf ByteArray.empty x7_3 x8_2) (rdOf ByteArray.empty l0 x44_3)).bind fun t194 => (if t194 = true then (if 0 ≤ ((rdOf ByteArray.empty l0 x44_3).size : Int) then (if ((rdOf ByteArray.empty l0 x44_3).size : Int) ≤ ((rdOf ByteArray.empty x7_3 x8_2).size : Int) then ((spec_wdHas.f k3 x7_3 ((rdOf ByteArray.empty x7_3 x8_2).extract ((rdOf ByteArray.empty l0 x44_3).size) (rdOf ByteArray.empty x7_3 x8_2).size)).bind fun t196 => (if t196 = true then (spec_MissingBehind.l1 k3 l0 x6_3 x7_3 x8_2 l0 (l0.length : Int) (wrap64 (x44_3 + 1))) else (if x7_3.length < 8796093022208 then (spec_MissingBehind.l1 k3 l0 x6_3 (x7_3 ++ [(rdOf ByteArray.empty x7_3 x8_2).extract ((rdOf ByteArray.empty l0 x44_3).size) (rdOf ByteArray.empty x7_3 x8_2).size]) x8_2 l0 (l0.length : Int) (wrap64 (x44_3 + 1))) else (none)))) else (none)) else (none)) else (spec_MissingBehind.l1 k3 l0 x6_3 x7_3 x8_2 l0 (l0.length : Int) (wrap64 (x44_3 + 1)))))) = some (r1, r2) := H
                                have A24 := Aside0.mk A240
                                clear A240
                                by_cases c25 : t188 = true
                                · subst c25
                                  have H1 : (if 0 ≤ ((rdOf ByteArray.empty x7_3 x8_2).size : Int) then (if ((rdOf ByteArray.empty x7_3 x8_2).size : Int) ≤ ((rdOf ByteArray.empty l0 x44_3).size : Int) then ((spec_wdPut.f k3 x6_3 ((rdOf ByteArray.empty l0 x44_3).extract ((rdOf ByteArray.empty x7_3 x8_2).size) (rdOf ByteArray.empty l0 x44_3).size)).bind fun t190 => (spec_MissingBehind.l1 k3 l0 t190 x7_3 x8_2 l0 (l0.length : Int) (wrap64 (x44_3 + 1)))) else (none)) else (none)) = some (r1, r2) := by rw [if_pos rfl] at H; exact H
                                  clear H
                                  have H := H1
                                  clear H1
                                  by_cases c26 : 0 ≤ ((rdOf ByteArray.empty x7_3 x8_2).size : Int)
                                  · rw [if_pos c26] at H
                                    have c26b0 := eq_true c26
                                    have c26b1 : decide (0 ≤ ((rdOf ByteArray.empty x7_3 x8_2).size : Int)) = true := decide_eq_true c26
                                    clear c26
                                    by_cases c27 : ((rdOf ByteArray.empty x7_3 x8_2).size : Int) ≤ ((rdOf ByteArray.empty l0 x44_3).size : Int)
                                    · rw [if_pos c27] at H
                                      have c27b0 := eq_true c27
                                      have c27b1 : decide (((rdOf ByteArray.empty x7_3 x8_2).size : Int) ≤ ((rdOf ByteArray.empty l0 x44_3).size : Int)) = true := decide_eq_true c27
                                      clear c27
                                      replace H := Option.bind_eq_some_iff.mp H
                                      obtain ⟨t190, A280, H⟩ := H
                                      replace H : (spec_MissingBehind.l1 k3 l0 t190 x7_3 x8_2 l0 (l0.length : Int) (wrap64 (x44_3 + 1))) = some (r1, r2) := H
                                      have A28 := Aside0.mk A280
                                      clear A280
                                      have H' := Aside0.mk H
                                      clear H
                                      have p186 : 0 ≤ (x44_3 : Int) := of_decide_eq_true (by first | (with_reducible assumption) | assumption)
                                      have q186 : x44_3 < (l0.length : Int) := of_decide_eq_true (by first | (with_reducible assumption) | assumption)
                                      obtain ⟨ad186, e186, hx186_0⟩ := Kd.at_string HR0.out x44_3 p186 q186
                                      cases e186
                                      replace hx186_0 := (HB.out.cell (World.block_lt_of_cell? w _ hx186_0)).trans hx186_0
                                      replace p186 := eq_true p186
                                      replace q186 := eq_true q186
                                      obtain ⟨Ao29, co29, eo29⟩ := Kd.R_slice HO_7.out
                                      subst eo29
                                      have p187 : 0 ≤ (x8_2 : Int) := of_decide_eq_true (by first | (with_reducible assumption) | assumption)
                                      have q187 : x8_2 < (x7_3.length : Int) := of_decide_eq_true (by first | (with_reducible assumption) | assumption)
                                      obtain ⟨ad187, e187, hx187_0⟩ := Kd.at_string (Kd.R_reads' HO_7.out).2.2 x8_2 p187 q187
                                      cases e187
                                      replace p187 := eq_true p187
                                      replace q187 := eq_true q187
                                      go_wp2_with (first | ((with_reducible refine gate_callee (f := 47) rfl ?_); refine goesL_ (some 53) rfl rfl Tryd.func47 (by kernel_rfl) rfl #[.string (rdOf ByteArray.empty l0 x44_3), .string (rdOf ByteArray.empty x7_3 x8_2)] rfl (by (try simp only [List.map_toArray, List.map_cons, List.map_nil]); first | done | rfl | (simp only [List.length_drop, List.length_take]; rfl)) ?_; (with_reducible refine (spec_wdBegins.calls (rdOf ByteArray.empty l0 x44_3) (rdOf ByteArray.empty x7_3 x8_2) true _ A24.out).mono ?_); rintro e w' ⟨rfl, ⟨nd, rfl⟩⟩; refine ⟨_, rfl, ?_⟩; have p189 : 0 ≤ (x8_2 : Int) := of_decide_eq_true (by first | (with_reducible assumption) | assumption); have q189 : x8_2 < (x7_3.length : Int) := of_decide_eq_true (by first | (with_reducible assumption) | assumption); obtain ⟨ad189, e189, hx189_0⟩ := Kd.at_string (Kd.R_reads' HO_7.out).2.2 x8_2 p189 q189; obtain rfl : ad187 = ad189 := (by injection e189); replace p189 := eq_true p189; replace q189 := eq_true q189; obtain ⟨Ao30, co30, eo30⟩ := Kd.R_slice HO_6.out; subst eo30) | ((with_reducible refine gate_callee (f := 46) rfl ?_); refine goesL_ (some 62) rfl rfl Tryd.func46 (by kernel_rfl) rfl #[.slice Ao30 x6_3.length co30, .string ((rdOf ByteArray.empty l0 x44_3).extract ((rdOf ByteArray.empty x7_3 x8_2).size) (rdOf ByteArray.empty l0 x44_3).size)] rfl (by (try simp only [List.map_toArray, List.map_cons, List.map_nil]); first | done | rfl | (simp only [List.length_drop, List.length_take]; rfl)) ?_; (with_reducible refine (spec_wdPut.calls k3 (fun k_ => some k_ = (.slice Ao30 x6_3.length co30 : Value).ownBlock) (.slice Ao30 x6_3.length co30) x6_3 ((rdOf ByteArray.empty l0 x44_3).extract ((rdOf ByteArray.empty x7_3 x8_2).size) (rdOf ByteArray.empty l0 x44_3).size) t190 w _ ?side1 ?side2 A28.out).mono ?_); (case side1 => repeat (first | (with_reducible first | exact HB.out | apply below_alloc | apply pw_below_drewN | apply below_drew1) | exact HB.out)); (case side2 => exact Kd.R_tight rfl HO_6.out); rintro e w31 ⟨v191, rfl, ho0, hb, hkp⟩; refine ⟨_, rfl, ?_⟩; have n0_ := Aside0.mk (Kd.R_mono (ok' := fun k_ => some k_ ≠ (v191 : Value).ownBlock) (Kd.R_keptB (HO_7.out) hkp (fun k_ hk_ hs_ => (hk_) hs_)) (fun k_ hk_ => fun e_ => Or.elim (ho0.1 k_ e_.symm) (fun hs_ => hk_.2.1 hs_) (fun hn_ => Nat.not_le.2 hk_.2.2 hn_))); have n1_ := Aside0.mk (Kd.R_mono (ok' := fun k_ => some k_ ≠ (.slice (some ad187) x7_3.length co29 : Value).ownBlock) ho0 (fun k_ hk_ => Or.elim hk_ (fun hs_ => fun e_ => (((HO_7.out).1 k_ e_.symm)) hs_) (fun hn_ => (Kd.fresh' (Kd.R_lt (by (with_reducible repeat (first | apply Kd.R_alloc | apply Kd.R_drewN | apply Kd.R_drew)); exact HO_7.out)) k_ hn_)))); have n2_ := Aside0.mk (hb); clear HO_7; clear HB; clear HO_6; have HO_7 := n0_; have HO192 := n1_; have HB := n2_; clear n0_ n1_ n2_; (try clear hb); (try clear hkp); (try clear ho0)))
                                      go_roundg k3
                                      case measure => have := HJ2.out; have := HK2.out; have := HK3.out; omega
                                      case rel => exact ⟨(t190), (x7_3), (wrap64 (x44_3 + 1)), (by first | rfl | (simp; done) | (simp [*]; done) | (simp only [IntWalk.i64_left]; done) | (simp [IntWalk.i64_left]; done) | (simp [*, IntWalk.i64_left]; done)), H', ⟨by have := HJ2.out; have := HK2.out; have := HK3.out; omega⟩, ⟨by (with_reducible repeat (first | apply Kd.R_alloc | apply Kd.R_drewN | apply Kd.R_drew)); exact HO192.out⟩, ⟨by (with_reducible repeat (first | apply Kd.R_alloc | apply Kd.R_drewN | apply Kd.R_drew)); exact HO_7.out⟩, ⟨by repeat (first | (with_reducible first | exact HB.out | apply below_alloc | apply pw_below_drewN | apply below_drew1) | exact HB.out)⟩⟩
                                    · rw [if_neg c27] at H
                                      exact absurd H (by simp)
                                  · rw [if_neg c26] at H
                                    exact absurd H (by simp)
                                · replace c25 := Bool.eq_false_iff.mpr c25
                                  subst c25
                                  have H1 : ((spec_wdBegins.f (rdOf ByteArray.empty x7_3 x8_2) (rdOf ByteArray.empty l0 x44_3)).bind fun t194 => (if t194 = true then (if 0 ≤ ((rdOf ByteArray.empty l0 x44_3).size : Int) then (if ((rdOf ByteArray.empty l0 x44_3).size : Int) ≤ ((rdOf ByteArray.empty x7_3 x8_2).size : Int) then ((spec_wdHas.f k3 x7_3 ((rdOf ByteArray.empty x7_3 x8_2).extract ((rdOf ByteArray.empty l0 x44_3).size) (rdOf ByteArray.empty x7_3 x8_2).size)).bind fun t196 => (if t196 = true then (spec_MissingBehind.l1 k3 l0 x6_3 x7_3 x8_2 l0 (l0.length : Int) (wrap64 (x44_3 + 1))) else (if x7_3.length < 8796093022208 then (spec_MissingBehind.l1 k3 l0 x6_3 (x7_3 ++ [(rdOf ByteArray.empty x7_3 x8_2).extract ((rdOf ByteArray.empty l0 x44_3).size) (rdOf ByteArray.empty x7_3 x8_2).size]) x8_2 l0 (l0.length : Int) (wrap64 (x44_3 + 1))) else (none)))) else (none)) else (none)) else (spec_MissingBehind.l1 k3 l0 x6_3 x7_3 x8_2 l0 (l0.length : Int) (wrap64 (x44_3 + 1))))) = some (r1, r2) := by rw [if_neg (show ¬ (false = true) by decide)] at H; exact H
                                  clear H
                                  have H := H1
                                  clear H1
                                  replace H := Option.bind_eq_some_iff.mp H
                                  obtain ⟨t194, A320, H⟩ := H
                                  replace H : (if t194 = true then (if 0 ≤ ((rdOf ByteArray.empty l0 x44_3).size : Int) then (if ((rdOf ByteArray.empty l0 x44_3).size : Int) ≤ ((rdOf ByteArray.empty x7_3 x8_2).size : Int) then ((spec_wdHas.f k3 x7_3 ((rdOf ByteArray.empty x7_3 x8_2).extract ((rdOf ByteArray.empty l0 x44_3).size) (rdOf ByteArray.empty x7_3 x8_2).size)).bind fun t196 => (if t196 = true then (spec_MissingBehind.l1 k3 l0 x6_3 x7_3 x8_2 l0 (l0.length : Int) (wrap64 (x44_3 + 1))) else (if x7_3.length < 8796093022208 then (spec_MissingBehind.l1 k3 l0 x6_3 (x7_3 ++ [(rdOf ByteArray.empty x7_3 x8_2).extract ((rdOf ByteArray.empty l0 x44_3).size) (rdOf ByteArray.empty x7_3 x8_2).size]) x8_2 l0 (l0.length : Int) (wrap64 (x44_3 + 1))) else (none)))) else (none)) else (none)) else (spec_MissingBehind.l1 k3 l0 x6_3 x7_3 x8_2 l0 (l0.length : Int) (wrap64 (x44_3 + 1)))) = some (r1, r2) := H
                                  have A32 := Aside0.mk A320
                                  clear A320
                                  by_cases c33 : t194 = true
                                  · subst c33
                                    have H1 : (if 0 ≤ ((rdOf ByteArray.empty l0 x44_3).size : Int) then (if ((rdOf ByteArray.empty l0 x44_3).size : Int) ≤ ((rdOf ByteArray.empty x7_3 x8_2).size : Int) then ((spec_wdHas.f k3 x7_3 ((rdOf ByteArray.empty x7_3 x8_2).extract ((rdOf ByteArray.empty l0 x44_3).size) (rdOf ByteArray.empty x7_3 x8_2).size)).bind fun t196 => (if t196 = true then (spec_MissingBehind.l1 k3 l0 x6_3 x7_3 x8_2 l0 (l0.length : Int) (wrap64 (x44_3 + 1))) else (if x7_3.length < 8796093022208 then (spec_MissingBehind.l1 k3 l0 x6_3 (x7_3 ++ [(rdOf ByteArray.empty x7_3 x8_2).extract ((rdOf ByteArray.empty l0 x44_3).size) (rdOf ByteArray.empty x7_3 x8_2).size]) x8_2 l0 (l0.length : Int) (wrap64 (x44_3 + 1))) else (none)))) else (none)) else (none)) = some (r1, r2) := by rw [if_pos rfl] at H; exact H
                                    clear H
                                    have H := H1
                                    clear H1
                                    by_cases c34 : 0 ≤ ((rdOf ByteArray.empty l0 x44_3).size : Int)
                                    · rw [if_pos c34] at H
                                      have c34b0 := eq_true c34
                                      have c34b1 : decide (0 ≤ ((rdOf ByteArray.empty l0 x44_3).size : Int)) = true := decide_eq_true c34
                                      clear c34
                                      by_cases c35 : ((rdOf ByteArray.empty l0 x44_3).size : Int) ≤ ((rdOf ByteArray.empty x7_3 x8_2).size : Int)
                                      · rw [if_pos c35] at H
                                        have c35b0 := eq_true c35
                                        have c35b1 : decide (((rdOf ByteArray.empty l0 x44_3).size : Int) ≤ ((rdOf ByteArray.empty x7_3 x8_2).size : Int)) = true := decide_eq_true c35
                                        clear c35
                                        replace H := Option.bind_eq_some_iff.mp H
                                        obtain ⟨t196, A360, H⟩ := H
                                        replace H : (if t196 = true then (spec_MissingBehind.l1 k3 l0 x6_3 x7_3 x8_2 l0 (l0.length : Int) (wrap64 (x44_3 + 1))) else (if x7_3.length < 8796093022208 then (spec_MissingBehind.l1 k3 l0 x6_3 (x7_3 ++ [(rdOf ByteArray.empty x7_3 x8_2).extract ((rdOf ByteArray.empty l0 x44_3).size) (rdOf ByteArray.empty x7_3 x8_2).size]) x8_2 l0 (l0.length : Int) (wrap64 (x44_3 + 1))) else (none))) = some (r1, r2) := H
                                        have A36 := Aside0.mk A360
                                        clear A360
                                        by_cases c37 : t196 = true
                                        · subst c37
                                          have H1 : (spec_MissingBehind.l1 k3 l0 x6_3 x7_3 x8_2 l0 (l0.length : Int) (wrap64 (x44_3 + 1))) = some (r1, r2) := by rw [if_pos rfl] at H; exact H
                                          clear H
                                          have H := H1
                                          clear H1
                                          have H' := Aside0.mk H
                                          clear H
                                          have p186 : 0 ≤ (x44_3 : Int) := of_decide_eq_true (by first | (with_reducible assumption) | assumption)
                                          have q186 : x44_3 < (l0.length : Int) := of_decide_eq_true (by first | (with_reducible assumption) | assumption)
                                          obtain ⟨ad186, e186, hx186_0⟩ := Kd.at_string HR0.out x44_3 p186 q186
                                          cases e186
                                          replace hx186_0 := (HB.out.cell (World.block_lt_of_cell? w _ hx186_0)).trans hx186_0
                                          replace p186 := eq_true p186
                                          replace q186 := eq_true q186
                                          obtain ⟨Ao38, co38, eo38⟩ := Kd.R_slice HO_7.out
                                          subst eo38
                                          have p187 : 0 ≤ (x8_2 : Int) := of_decide_eq_true (by first | (with_reducible assumption) | assumption)
                                          have q187 : x8_2 < (x7_3.length : Int) := of_decide_eq_true (by first | (with_reducible assumption) | assumption)
                                          obtain ⟨ad187, e187, hx187_0⟩ := Kd.at_string (Kd.R_reads' HO_7.out).2.2 x8_2 p187 q187
                                          cases e187
                                          replace p187 := eq_true p187
                                          replace q187 := eq_true q187
                                          go_wp2_with (first | ((with_reducible refine gate_callee (f := 47) rfl ?_); refine goesL_ (some 53) rfl rfl Tryd.func47 (by kernel_rfl) rfl #[.string (rdOf ByteArray.empty l0 x44_3), .string (rdOf ByteArray.empty x7_3 x8_2)] rfl (by (try simp only [List.map_toArray, List.map_cons, List.map_nil]); first | done | rfl | (simp only [List.length_drop, List.length_take]; rfl)) ?_; (with_reducible refine (spec_wdBegins.calls (rdOf ByteArray.empty l0 x44_3) (rdOf ByteArray.empty x7_3 x8_2) false _ A24.out).mono ?_); rintro e w' ⟨rfl, ⟨nd, rfl⟩⟩; refine ⟨_, rfl, ?_⟩; have p193 : 0 ≤ (x8_2 : Int) := of_decide_eq_true (by first | (with_reducible assumption) | assumption); have q193 : x8_2 < (x7_3.length : Int) := of_decide_eq_true (by first | (with_reducible assumption) | assumption); obtain ⟨ad193, e193, hx193_0⟩ := Kd.at_string (Kd.R_reads' HO_7.out).2.2 x8_2 p193 q193; obtain rfl : ad187 = ad193 := (by injection e193); replace p193 := eq_true p193; replace q193 := eq_true q193) | ((with_reducible refine gate_callee (f := 47) rfl ?_); refine goesL_ (some 68) rfl rfl Tryd.func47 (by kernel_rfl) rfl #[.string (rdOf ByteArray.empty x7_3 x8_2), .string (rdOf ByteArray.empty l0 x44_3)] rfl (by (try simp only [List.map_toArray, List.map_cons, List.map_nil]); first | done | rfl | (simp only [List.length_drop, List.length_take]; rfl)) ?_; (with_reducible refine (spec_wdBegins.calls (rdOf ByteArray.empty x7_3 x8_2) (rdOf ByteArray.empty l0 x44_3) true _ A32.out).mono ?_); rintro e w' ⟨rfl, ⟨nd, rfl⟩⟩; refine ⟨_, rfl, ?_⟩; have p195 : 0 ≤ (x8_2 : Int) := of_decide_eq_true (by first | (with_reducible assumption) | assumption); have q195 : x8_2 < (x7_3.length : Int) := of_decide_eq_true (by first | (with_reducible assumption) | assumption); obtain ⟨ad195, e195, hx195_0⟩ := Kd.at_string (Kd.R_reads' HO_7.out).2.2 x8_2 p195 q195; obtain rfl : ad187 = ad195 := (by injection e195); replace p195 := eq_true p195; replace q195 := eq_true q195) | (go_at_call 48; (with_reducible refine (spec_wdHas.calls k3 _ _ x7_3 ((rdOf ByteArray.empty x7_3 x8_2).extract ((rdOf ByteArray.empty l0 x44_3).size) (rdOf ByteArray.empty x7_3 x8_2).size) true _ ?side1 ?side2 A36.out).mono ?_); (case side1 => repeat (first | exact (Kd.R_reads' HO_7.out).2.2 | (with_reducible refine Kd.C_alloc ?_ _) | (with_reducible refine Kd.C_drewN ?_ _) | (with_reducible refine Kd.C_drew ?_))); (case side2 => exact (Kd.R_reads' HO_7.out).2.1); rintro e w' ⟨rfl, ⟨nd, rfl⟩⟩))
                                          go_roundg k3
                                          case measure => have := HJ2.out; have := HK2.out; have := HK3.out; omega
                                          case rel => exact ⟨(x6_3), (x7_3), (wrap64 (x44_3 + 1)), (by first | rfl | (simp; done) | (simp [*]; done) | (simp only [IntWalk.i64_left]; done) | (simp [IntWalk.i64_left]; done) | (simp [*, IntWalk.i64_left]; done)), H', ⟨by have := HJ2.out; have := HK2.out; have := HK3.out; omega⟩, ⟨by (with_reducible repeat (first | apply Kd.R_alloc | apply Kd.R_drewN | apply Kd.R_drew)); exact HO_6.out⟩, ⟨by (with_reducible repeat (first | apply Kd.R_alloc | apply Kd.R_drewN | apply Kd.R_drew)); exact HO_7.out⟩, ⟨by repeat (first | (with_reducible first | exact HB.out | apply below_alloc | apply pw_below_drewN | apply below_drew1) | exact HB.out)⟩⟩
                                        · replace c37 := Bool.eq_false_iff.mpr c37
                                          subst c37
                                          have H1 : (if x7_3.length < 8796093022208 then (spec_MissingBehind.l1 k3 l0 x6_3 (x7_3 ++ [(rdOf ByteArray.empty x7_3 x8_2).extract ((rdOf ByteArray.empty l0 x44_3).size) (rdOf ByteArray.empty x7_3 x8_2).size]) x8_2 l0 (l0.length : Int) (wrap64 (x44_3 + 1))) else (none)) = some (r1, r2) := by rw [if_neg (show ¬ (false = true) by decide)] at H; exact H
                                          clear H
                                          have H := H1
                                          clear H1
                                          have c39b0 := eq_true (of_decide_eq_true (by first | (with_reducible assumption) | assumption) : 0 ≤ ((rdOf ByteArray.empty l0 x44_3).size : Int))
                                          have c40b0 := eq_true (of_decide_eq_true (by first | (with_reducible assumption) | assumption) : ((rdOf ByteArray.empty l0 x44_3).size : Int) ≤ ((rdOf ByteArray.empty x7_3 x8_2).size : Int))
                                          by_cases c41 : x7_3.length < 8796093022208
                                          · rw [if_pos c41] at H
                                            have LMc41 := Aside0.mk c41
                                            clear c41
                                            obtain ⟨y198, hy198⟩ : ∃ y_ : List ByteArray, y_ = (x7_3 ++ [(rdOf ByteArray.empty x7_3 x8_2).extract ((rdOf ByteArray.empty l0 x44_3).size) (rdOf ByteArray.empty x7_3 x8_2).size]) := ⟨_, rfl⟩
                                            replace H : (spec_MissingBehind.l1 k3 l0 x6_3 y198 x8_2 l0 (l0.length : Int) (wrap64 (x44_3 + 1))) = some (r1, r2) := by first | (rw [hy198]; with_reducible exact H) | (have H2_ := (Option.bind_some _ _).symm.trans H; rw [hy198]; with_reducible exact H2_) | (have H2_ := (Option.bind_some _ _).symm.trans H; with_reducible exact H2_) | with_reducible exact H | (rw [hy198]; exact H) | exact H
                                            have Ny198 := Aside0.mk hy198
                                            clear hy198
                                            have H' := Aside0.mk H
                                            clear H
                                            have p186 : 0 ≤ (x44_3 : Int) := of_decide_eq_true (by first | (with_reducible assumption) | assumption)
                                            have q186 : x44_3 < (l0.length : Int) := of_decide_eq_true (by first | (with_reducible assumption) | assumption)
                                            obtain ⟨ad186, e186, hx186_0⟩ := Kd.at_string HR0.out x44_3 p186 q186
                                            cases e186
                                            replace hx186_0 := (HB.out.cell (World.block_lt_of_cell? w _ hx186_0)).trans hx186_0
                                            replace p186 := eq_true p186
                                            replace q186 := eq_true q186
                                            obtain ⟨Ao42, co42, eo42⟩ := Kd.R_slice HO_7.out
                                            subst eo42
                                            have p187 : 0 ≤ (x8_2 : Int) := of_decide_eq_true (by first | (with_reducible assumption) | assumption)
                                            have q187 : x8_2 < (x7_3.length : Int) := of_decide_eq_true (by first | (with_reducible assumption) | assumption)
                                            obtain ⟨ad187, e187, hx187_0⟩ := Kd.at_string (Kd.R_reads' HO_7.out).2.2 x8_2 p187 q187
                                            cases e187
                                            replace p187 := eq_true p187
                                            replace q187 := eq_true q187
                                            go_wp2_with (first | ((with_reducible refine gate_callee (f := 47) rfl ?_); refine goesL_ (some 53) rfl rfl Tryd.func47 (by kernel_rfl) rfl #[.string (rdOf ByteArray.empty l0 x44_3), .string (rdOf ByteArray.empty x7_3 x8_2)] rfl (by (try simp only [List.map_toArray, List.map_cons, List.map_nil]); first | done | rfl | (simp only [List.length_drop, List.length_take]; rfl)) ?_; (with_reducible refine (spec_wdBegins.calls (rdOf ByteArray.empty l0 x44_3) (rdOf ByteArray.empty x7_3 x8_2) false _ A24.out).mono ?_); rintro e w' ⟨rfl, ⟨nd, rfl⟩⟩; refine ⟨_, rfl, ?_⟩; have p193 : 0 ≤ (x8_2 : Int) := of_decide_eq_true (by first | (with_reducible assumption) | assumption); have q193 : x8_2 < (x7_3.length : Int) := of_decide_eq_true (by first | (with_reducible assumption) | assumption); obtain ⟨ad193, e193, hx193_0⟩ := Kd.at_string (Kd.R_reads' HO_7.out).2.2 x8_2 p193 q193; obtain rfl : ad187 = ad193 := (by injection e193); replace p193 := eq_true p193; replace q193 := eq_true q193) | ((with_reducible refine gate_callee (f := 47) rfl ?_); refine goesL_ (some 68) rfl rfl Tryd.func47 (by kernel_rfl) rfl #[.string (rdOf ByteArray.empty x7_3 x8_2), .string (rdOf ByteArray.empty l0 x44_3)] rfl (by (try simp only [List.map_toArray, List.map_cons, List.map_nil]); first | done | rfl | (simp only [List.length_drop, List.length_take]; rfl)) ?_; (with_reducible refine (spec_wdBegins.calls (rdOf ByteArray.empty x7_3 x8_2) (rdOf ByteArray.empty l0 x44_3) true _ A32.out).mono ?_); rintro e w' ⟨rfl, ⟨nd, rfl⟩⟩; refine ⟨_, rfl, ?_⟩; have p195 : 0 ≤ (x8_2 : Int) := of_decide_eq_true (by first | (with_reducible assumption) | assumption); have q195 : x8_2 < (x7_3.length : Int) := of_decide_eq_true (by first | (with_reducible assumption) | assumption); obtain ⟨ad195, e195, hx195_0⟩ := Kd.at_string (Kd.R_reads' HO_7.out).2.2 x8_2 p195 q195; obtain rfl : ad187 = ad195 := (by injection e195); replace p195 := eq_true p195; replace q195 := eq_true q195) | (go_at_call 48; (with_reducible refine (spec_wdHas.calls k3 _ _ x7_3 ((rdOf ByteArray.empty x7_3 x8_2).extract ((rdOf ByteArray.empty l0 x44_3).size) (rdOf ByteArray.empty x7_3 x8_2).size) false _ ?side1 ?side2 A36.out).mono ?_); (case side1 => repeat (first | exact (Kd.R_reads' HO_7.out).2.2 | (with_reducible refine Kd.C_alloc ?_ _) | (with_reducible refine Kd.C_drewN ?_ _) | (with_reducible refine Kd.C_drew ?_))); (case side2 => exact (Kd.R_reads' HO_7.out).2.1); rintro e w' ⟨rfl, ⟨nd, rfl⟩⟩; have p197 : 0 ≤ (x8_2 : Int) := of_decide_eq_true (by first | (with_reducible assumption) | assumption); have q197 : x8_2 < (x7_3.length : Int) := of_decide_eq_true (by first | (with_reducible assumption) | assumption); obtain ⟨ad197, e197, hx197_0⟩ := Kd.at_string (Kd.R_reads' HO_7.out).2.2 x8_2 p197 q197; obtain rfl : ad187 = ad197 := (by injection e197); replace p197 := eq_true p197; replace q197 := eq_true q197) | ((with_reducible refine gate_builtin (b := .append) (xs := #[.tmp 81, .tmp 89]) rfl ?_); (try (refine gate_guard (by rfl) ?_; dsimp only)); at_builtin; refine Kd.R_append Kd.string (w0 := w) w.heap.size rfl (.tmp 81) (.tmp 89) 22 9 (.string ⟨#[]⟩) 16 rfl Tryd.underlying22 info9 rfl (by decide) (by omega) (.slice (some ad187) x7_3.length co42) x7_3 ((rdOf ByteArray.empty x7_3 x8_2).extract ((rdOf ByteArray.empty l0 x44_3).size) (rdOf ByteArray.empty x7_3 x8_2).size) [.string ((rdOf ByteArray.empty x7_3 x8_2).extract ((rdOf ByteArray.empty l0 x44_3).size) (rdOf ByteArray.empty x7_3 x8_2).size)] (fun k_ => some k_ ≠ (u6 : Value).ownBlock) (fun _ => False) rfl rfl ?aP (fun _ hk => hk.elim) ?aF ?aO ?aB ?aS ?aL ?_; (case aP => exact rfl); (case aB => exact (by repeat (first | (with_reducible first | exact HB.out | apply below_alloc | apply pw_below_drewN | apply below_drew1) | exact HB.out))); (case aF => exact (fun k_ hk => Kd.fresh' (Kd.R_lt (by (with_reducible repeat (first | apply Kd.R_alloc | apply Kd.R_drewN | apply Kd.R_drew)); exact HO_6.out)) k_ hk)); (case aO => exact (by (with_reducible repeat (first | apply Kd.R_alloc | apply Kd.R_drewN | apply Kd.R_drew)); exact HO_7.out)); (case aS => exact (below_size (by repeat (first | (with_reducible first | exact HB.out | apply below_alloc | apply pw_below_drewN | apply below_drew1) | exact HB.out)))); (case aL => have := LMc41.out; omega); intro v199 w43 ho hb hg hat; rw [← Ny198.out] at ho; have n0_ := Aside0.mk (Kd.R_after (ok := (fun _ => True)) (by (with_reducible repeat (first | apply Kd.R_alloc | apply Kd.R_drewN | apply Kd.R_drew)); exact Kd.R_mono HO_6.out (fun _ hk => ⟨trivial, hk⟩)) hg hat); have n1_ := Aside0.mk (hb); have n2_ := Aside0.mk (ho); clear HO_6; clear HB; clear HO_7; have HO_6 := n0_; have HB := n1_; have HO200 := n2_; clear n0_ n1_ n2_; clear ho hb hg hat))
                                            go_roundg k3
                                            case measure => have := HJ2.out; have := HK2.out; have := HK3.out; omega
                                            case rel => exact ⟨(x6_3), (y198), (wrap64 (x44_3 + 1)), (by first | rfl | (simp; done) | (simp [*]; done) | (simp only [IntWalk.i64_left]; done) | (simp [IntWalk.i64_left]; done) | (simp [*, IntWalk.i64_left]; done)), H', ⟨by have := HJ2.out; have := HK2.out; have := HK3.out; omega⟩, ⟨by (with_reducible repeat (first | apply Kd.R_alloc | apply Kd.R_drewN | apply Kd.R_drew)); exact Kd.R_mono HO_6.out (fun _ hk => hk.2)⟩, ⟨by (with_reducible repeat (first | apply Kd.R_alloc | apply Kd.R_drewN | apply Kd.R_drew)); exact HO200.out⟩, ⟨by repeat (first | (with_reducible first | exact HB.out | apply below_alloc | apply pw_below_drewN | apply below_drew1) | exact HB.out)⟩⟩
                                          · rw [if_neg c41] at H
                                            exact absurd H (by simp)
                                      · rw [if_neg c35] at H
                                        exact absurd H (by simp)
                                    · rw [if_neg c34] at H
                                      exact absurd H (by simp)
                                  · replace c33 := Bool.eq_false_iff.mpr c33
                                    subst c33
                                    have H1 : (spec_MissingBehind.l1 k3 l0 x6_3 x7_3 x8_2 l0 (l0.length : Int) (wrap64 (x44_3 + 1))) = some (r1, r2) := by rw [if_neg (show ¬ (false = true) by decide)] at H; exact H
                                    clear H
                                    have H := H1
                                    clear H1
                                    have H' := Aside0.mk H
                                    clear H
                                    have p186 : 0 ≤ (x44_3 : Int) := of_decide_eq_true (by first | (with_reducible assumption) | assumption)
                                    have q186 : x44_3 < (l0.length : Int) := of_decide_eq_true (by first | (with_reducible assumption) | assumption)
                                    obtain ⟨ad186, e186, hx186_0⟩ := Kd.at_string HR0.out x44_3 p186 q186
                                    cases e186
                                    replace hx186_0 := (HB.out.cell (World.block_lt_of_cell? w _ hx186_0)).trans hx186_0
                                    replace p186 := eq_true p186
                                    replace q186 := eq_true q186
                                    obtain ⟨Ao44, co44, eo44⟩ := Kd.R_slice HO_7.out
                                    subst eo44
                                    have p187 : 0 ≤ (x8_2 : Int) := of_decide_eq_true (by first | (with_reducible assumption) | assumption)
                                    have q187 : x8_2 < (x7_3.length : Int) := of_decide_eq_true (by first | (with_reducible assumption) | assumption)
                                    obtain ⟨ad187, e187, hx187_0⟩ := Kd.at_string (Kd.R_reads' HO_7.out).2.2 x8_2 p187 q187
                                    cases e187
                                    replace p187 := eq_true p187
                                    replace q187 := eq_true q187
                                    go_wp2_with (first | ((with_reducible refine gate_callee (f := 47) rfl ?_); refine goesL_ (some 53) rfl rfl Tryd.func47 (by kernel_rfl) rfl #[.string (rdOf ByteArray.empty l0 x44_3), .string (rdOf ByteArray.empty x7_3 x8_2)] rfl (by (try simp only [List.map_toArray, List.map_cons, List.map_nil]); first | done | rfl | (simp only [List.length_drop, List.length_take]; rfl)) ?_; (with_reducible refine (spec_wdBegins.calls (rdOf ByteArray.empty l0 x44_3) (rdOf ByteArray.empty x7_3 x8_2) false _ A24.out).mono ?_); rintro e w' ⟨rfl, ⟨nd, rfl⟩⟩; refine ⟨_, rfl, ?_⟩; have p193 : 0 ≤ (x8_2 : Int) := of_decide_eq_true (by first | (with_reducible assumption) | assumption); have q193 : x8_2 < (x7_3.length : Int) := of_decide_eq_true (by first | (with_reducible assumption) | assumption); obtain ⟨ad193, e193, hx193_0⟩ := Kd.at_string (Kd.R_reads' HO_7.out).2.2 x8_2 p193 q193; obtain rfl : ad187 = ad193 := (by injection e193); replace p193 := eq_true p193; replace q193 := eq_true q193) | ((with_reducible refine gate_callee (f := 47) rfl ?_); refine goesL_ (some 68) rfl rfl Tryd.func47 (by kernel_rfl) rfl #[.string (rdOf ByteArray.empty x7_3 x8_2), .string (rdOf ByteArray.empty l0 x44_3)] rfl (by (try simp only [List.map_toArray, List.map_cons, List.map_nil]); first | done | rfl | (simp only [List.length_drop, List.length_take]; rfl)) ?_; (with_reducible refine (spec_wdBegins.calls (rdOf ByteArray.empty x7_3 x8_2) (rdOf ByteArray.empty l0 x44_3) false _ A32.out).mono ?_); rintro e w' ⟨rfl, ⟨nd, rfl⟩⟩; refine ⟨_, rfl, ?_⟩))
                                    go_roundg k3
                                    case measure => have := HJ2.out; have := HK2.out; have := HK3.out; omega
                                    case rel => exact ⟨(x6_3), (x7_3), (wrap64 (x44_3 + 1)), (by first | rfl | (simp; done) | (simp [*]; done) | (simp only [IntWalk.i64_left]; done) | (simp [IntWalk.i64_left]; done) | (simp [*, IntWalk.i64_left]; done)), H', ⟨by have := HJ2.out; have := HK2.out; have := HK3.out; omega⟩, ⟨by (with_reducible repeat (first | apply Kd.R_alloc | apply Kd.R_drewN | apply Kd.R_drew)); exact HO_6.out⟩, ⟨by (with_reducible repeat (first | apply Kd.R_alloc | apply Kd.R_drewN | apply Kd.R_drew)); exact HO_7.out⟩, ⟨by repeat (first | (with_reducible first | exact HB.out | apply below_alloc | apply pw_below_drewN | apply below_drew1) | exact HB.out)⟩⟩
                              · rw [if_neg c23] at H
                                exact absurd H (by simp)
                            · rw [if_neg c22] at H
                              exact absurd H (by simp)
                          · rw [if_neg c21] at H
                            exact absurd H (by simp)
                        · rw [if_neg c20] at H
                          exact absurd H (by simp)
                      · rw [if_neg c19] at H
                        have c19b0 : decide (x44_3 < (l0.length : Int)) = false := decide_eq_false c19
                        clear c19
                        have H' := Aside0.mk H
                        clear H
                        go_wp2
                        go_roundg k3
                        case measure => have := HJ2.out; have := HK2.out; have := HK3.out; omega
                        case rel => exact ⟨(x6_3), (x7_3), (wrap64 (x8_2 + 1)), (by first | rfl | (simp; done) | (simp [*]; done) | (simp only [IntWalk.i64_left]; done) | (simp [IntWalk.i64_left]; done) | (simp [*, IntWalk.i64_left]; done)), H', ⟨by have := HJ2.out; have := HK2.out; have := HK3.out; omega⟩, ⟨by (with_reducible repeat (first | apply Kd.R_alloc | apply Kd.R_drewN | apply Kd.R_drew)); exact HO_6.out⟩, ⟨by (with_reducible repeat (first | apply Kd.R_alloc | apply Kd.R_drewN | apply Kd.R_drew)); exact HO_7.out⟩, ⟨by repeat (first | (with_reducible first | exact HB.out | apply below_alloc | apply pw_below_drewN | apply below_drew1) | exact HB.out)⟩⟩
              · rw [if_neg c12] at H
                exact absurd H (by simp)
            · rw [if_neg c11] at H
              have c11b0 : decide (x8_2 < (x7_2.length : Int)) = false := decide_eq_false c11
              clear c11
              have H' := Aside0.mk H
              clear H
              obtain ⟨Ao45, co45, eo45⟩ := Kd.R_slice HO_7.out
              subst eo45
              obtain ⟨Ao46, co46, eo46⟩ := Kd.R_slice HO_6.out
              subst eo46
              go_wp2
              go_loopg [11, 94] k2 (fun kq v11 v94 w' => ∃ (x11_3 : List ByteArray) (x94_3 : Int), v94 = .int .i64 x94_3 ∧ Aside0 (spec_MissingBehind.l2 kq x11_3 x6_2 (x6_2.length : Int) x94_3 = some (r1, r2)) ∧ Aside0 (kq ≤ k2) ∧ Aside0 (Kd.R Kd.string 9 w' w.heap.size (fun k_ => some k_ ≠ ((.slice Ao46 x6_2.length co46) : Value).ownBlock) v11 x11_3) ∧ Aside0 (Kd.R Kd.string 9 w' w.heap.size (fun k_ => some k_ ≠ (v11 : Value).ownBlock) (.slice Ao46 x6_2.length co46) x6_2) ∧ Aside0 (Below w.heap.size w w'))
              case atStart => exact ⟨(([] : List ByteArray)), (0), (by first | rfl | (simp; done) | (simp [*]; done) | (simp only [IntWalk.i64_left]; done) | (simp [IntWalk.i64_left]; done) | (simp [*, IntWalk.i64_left]; done)), H', ⟨Nat.le_refl _⟩, ⟨by first | exact Kd.R_nil _ _ _ _ _ | exact Kd.N_nil _ _ _ _ _ | exact Kd.V_nil _ _ _ _ _ | exact Kd.Q_nil _ _ _ _ _ | exact Kd.S_nil _ _ _ _ _⟩, ⟨by (with_reducible repeat (first | apply Kd.R_alloc | apply Kd.R_drewN | apply Kd.R_drew)); exact Kd.R_mono HO_6.out (fun _ hk => (by simp [Value.ownBlock]))⟩, ⟨by repeat (first | (with_reducible first | exact HB.out | apply below_alloc | apply pw_below_drewN | apply below_drew1) | exact HB.out)⟩⟩
              case round =>
                clear H'
                try clear c1
                try clear p1
                try clear q1
                try clear hx1
                try clear c2
                try clear p2
                try clear c3
                try clear c4
                try clear c5
                try clear p6
                try clear c8
                try clear c11
                try clear c11b0
                try clear c12
                try clear c12b0
                try clear c13
                try clear c13b0
                try clear c13b1
                try clear p18
                try clear q18
                try clear hx18
                try clear c19
                try clear c19b0
                try clear p19
                try clear q19
                try clear hx19
                try clear c20
                try clear c20b0
                try clear c21
                try clear c21b0
                try clear c22
                try clear c22b0
                try clear c23
                try clear c23b0
                try clear c25
                try clear c26
                try clear c26b0
                try clear c26b1
                try clear c27
                try clear c27b0
                try clear c27b1
                try clear c33
                try clear c34
                try clear c34b0
                try clear c34b1
                try clear c35
                try clear c35b0
                try clear c35b1
                try clear c37
                try clear c39
                try clear c39b0
                try clear c40
                try clear c40b0
                try clear c41
                try clear c44
                try clear c46
                try clear hx182_0
                try clear hx186_0
                try clear hx187_0
                try clear hx189_0
                try clear hx193_0
                try clear hx195_0
                try clear hx197_0
                try clear p1
                try clear p18
                try clear p182
                try clear p186
                try clear p187
                try clear p189
                try clear p193
                try clear p195
                try clear p197
                try clear p2
                try clear p6
                try clear q1
                try clear q18
                try clear q182
                try clear q186
                try clear q187
                try clear q189
                try clear q193
                try clear q195
                try clear q197
                obtain ⟨x11_3, x94_3, rfl, HA, HK3, HO_11, HO_92, HB⟩ := hrel
                cases gk with
                | zero => exact absurd HA.out (by simp [spec_MissingBehind.l2])
                | succ k3 =>
                  have H := HA.out
                  clear HA
                  simp only [spec_MissingBehind.l2] at H
                  by_cases c47 : x94_3 < (x6_2.length : Int)
                  · rw [if_pos c47] at H
                    have c47b0 : decide (x94_3 < (x6_2.length : Int)) = true := decide_eq_true c47
                    clear c47
                    by_cases c48 : 0 ≤ x94_3
                    · rw [if_pos c48] at H
                      have c48b0 : decide (0 ≤ x94_3) = true := decide_eq_true c48
                      clear c48
                      by_cases c49 : x94_3 < (x6_2.length : Int)
                      · rw [if_pos c49] at H
                        have c49b0 : decide (x94_3 < (x6_2.length : Int)) = true := decide_eq_true c49
                        clear c49
                        have H' := Aside0.mk H
                        clear H
                        have p201 : 0 ≤ (x94_3 : Int) := of_decide_eq_true (by first | (with_reducible assumption) | assumption)
                        have q201 : x94_3 < (x6_2.length : Int) := of_decide_eq_true (by first | (with_reducible assumption) | assumption)
                        obtain ⟨ad201, e201, hx201_0⟩ := Kd.at_string (Kd.R_reads' HO_92.out).2.2 x94_3 p201 q201
                        cases e201
                        replace p201 := eq_true p201
                        replace q201 := eq_true q201
                        obtain ⟨Ao50, co50, eo50⟩ := Kd.R_slice HO_11.out
                        subst eo50
                        go_wp2
                        go_loopg [14, 100] k3 (fun kq v14 v100 w' => ∃ (x14_4 : Bool) (x100_4 : Int), v14 = .bool x14_4 ∧ v100 = .int .i64 x100_4 ∧ Aside0 (spec_MissingBehind.l3 kq x11_3 (rdOf ByteArray.empty x6_2 x94_3) x14_4 x6_2 (x6_2.length : Int) x94_3 x11_3 (x11_3.length : Int) x100_4 = some (r1, r2)) ∧ Aside0 (kq ≤ k3) ∧ Aside0 (Kd.R Kd.string 9 w' w.heap.size (fun k_ => some k_ ≠ ((.slice (some ad201) x6_2.length co46) : Value).ownBlock) (.slice Ao50 x11_3.length co50) x11_3) ∧ Aside0 (Kd.R Kd.string 9 w' w.heap.size (fun k_ => some k_ ≠ ((.slice Ao50 x11_3.length co50) : Value).ownBlock ∧ some k_ ≠ ((.slice Ao50 x11_3.length co50) : Value).ownBlock) (.slice (some ad201) x6_2.length co46) x6_2) ∧ Aside0 (Kd.R Kd.string 9 w' w.heap.size (fun k_ => some k_ ≠ ((.slice (some ad201) x6_2.length co46) : Value).ownBlock) (.slice Ao50 x11_3.length co50) x11_3) ∧ Aside0 (Below w.heap.size w w'))
                        case atStart => exact ⟨(true), (0), (by first | rfl | (simp; done) | (simp [*]; done) | (simp only [IntWalk.i64_left]; done) | (simp [IntWalk.i64_left]; done) | (simp [*, IntWalk.i64_left]; done)), (by first | rfl | (simp; done) | (simp [*]; done) | (simp only [IntWalk.i64_left]; done) | (simp [IntWalk.i64_left]; done) | (simp [*, IntWalk.i64_left]; done)), H', ⟨Nat.le_refl _⟩, ⟨by (with_reducible repeat (first | apply Kd.R_alloc | apply Kd.R_drewN | apply Kd.R_drew)); exact HO_11.out⟩, ⟨by (with_reducible repeat (first | apply Kd.R_alloc | apply Kd.R_drewN | apply Kd.R_drew)); exact Kd.R_mono HO_92.out (fun _ hk => ⟨hk, hk⟩)⟩, ⟨by (with_reducible repeat (first | apply Kd.R_alloc | apply Kd.R_drewN | apply Kd.R_drew)); exact HO_11.out⟩, ⟨by repeat (first | (with_reducible first | exact HB.out | apply below_alloc | apply pw_below_drewN | apply below_drew1) | exact HB.out)⟩⟩
                        case round =>
                          clear H'
                          try clear c1
                          try clear p1
                          try clear q1
                          try clear hx1
                          try clear c2
                          try clear p2
                          try clear q2
                          try clear hx2
                          try clear c3
                          try clear c4
                          try clear c5
                          try clear p6
                          try clear c8
                          try clear c11
                          try clear c11b0
                          try clear c12
                          try clear c12b0
                          try clear c13
                          try clear c13b0
                          try clear c13b1
                          try clear p18
                          try clear q18
                          try clear hx18
                          try clear c19
                          try clear c19b0
                          try clear p19
                          try clear q19
                          try clear hx19
                          try clear c20
                          try clear c20b0
                          try clear p20
                          try clear q20
                          try clear hx20
                          try clear c21
                          try clear c21b0
                          try clear c22
                          try clear c22b0
                          try clear c23
                          try clear c23b0
                          try clear c25
                          try clear c26
                          try clear c26b0
                          try clear c26b1
                          try clear c27
                          try clear c27b0
                          try clear c27b1
                          try clear c33
                          try clear c34
                          try clear c34b0
                          try clear c34b1
                          try clear c35
                          try clear c35b0
                          try clear c35b1
                          try clear c37
                          try clear c39
                          try clear c39b0
                          try clear c40
                          try clear c40b0
                          try clear c41
                          try clear c44
                          try clear c46
                          try clear c47
                          try clear c47b0
                          try clear c48
                          try clear c48b0
                          try clear c49
                          try clear c49b0
                          try clear hx182_0
                          try clear hx186_0
                          try clear hx187_0
                          try clear hx189_0
                          try clear hx193_0
                          try clear hx195_0
                          try clear hx197_0
                          try clear hx201_0
                          try clear p1
                          try clear p18
                          try clear p182
                          try clear p186
                          try clear p187
                          try clear p189
                          try clear p19
                          try clear p193
                          try clear p195
                          try clear p197
                          try clear p2
                          try clear p201
                          try clear p6
                          try clear q1
                          try clear q18
                          try clear q182
                          try clear q186
                          try clear q187
                          try clear q189
                          try clear q19
                          try clear q193
                          try clear q195
                          try clear q197
                          try clear q201
                          obtain ⟨x14_4, x100_4, rfl, rfl, HA, HK4, HO_11, HO_92, HO_98, HB⟩ := hrel
                          cases gk with
                          | zero => exact absurd HA.out (by simp [spec_MissingBehind.l3])
                          | succ k4 =>
                            have H := HA.out
                            clear HA
                            simp only [spec_MissingBehind.l3] at H
                            by_cases c51 : x100_4 < (x11_3.length : Int)
                            · rw [if_pos c51] at H
                              have c51b0 : decide (x100_4 < (x11_3.length : Int)) = true := decide_eq_true c51
                              clear c51
                              by_cases c52 : 0 ≤ x100_4
                              · rw [if_pos c52] at H
                                have c52b0 : decide (0 ≤ x100_4) = true := decide_eq_true c52
                                clear c52
                                by_cases c53 : x100_4 < (x11_3.length : Int)
                                · rw [if_pos c53] at H
                                  have c53b0 : decide (x100_4 < (x11_3.length : Int)) = true := decide_eq_true c53
                                  clear c53
                                  by_cases c54 : x14_4 = true
                                  · subst c54
                                    have H1 : ((spec_wdBegins.f (rdOf ByteArray.empty x6_2 x94_3) (rdOf ByteArray.empty x11_3 x100_4)).bind fun t203 => (spec_MissingBehind.l3 k4 x11_3 (rdOf ByteArray.empty x6_2 x94_3) (!t203) x6_2 (x6_2.length : Int) x94_3 x11_3 (x11_3.length : Int) (wrap64 (x100_4 + 1)))) = some (r1, r2) := by rw [if_pos rfl] at H; exact H
                                    clear H
                                    have H := H1
                                    clear H1
                                    replace H := Option.bind_eq_some_iff.mp H
                                    obtain ⟨t203, A550, H⟩ := H
                                    replace H : (spec_MissingBehind.l3 k4 x11_3 (rdOf ByteArray.empty x6_2 x94_3) (!t203) x6_2 (x6_2.length : Int) x94_3 x11_3 (x11_3.length : Int) (wrap64 (x100_4 + 1))) = some (r1, r2) := H
                                    have A55 := Aside0.mk A550
                                    clear A550
                                    have H' := Aside0.mk H
                                    clear H
                                    have p202 : 0 ≤ (x100_4 : Int) := of_decide_eq_true (by first | (with_reducible assumption) | assumption)
                                    have q202 : x100_4 < (x11_3.length : Int) := of_decide_eq_true (by first | (with_reducible assumption) | assumption)
                                    obtain ⟨ad202, e202, hx202_0⟩ := Kd.at_string (Kd.R_reads' HO_98.out).2.2 x100_4 p202 q202
                                    cases e202
                                    replace p202 := eq_true p202
                                    replace q202 := eq_true q202
                                    go_wp2_with (first | (go_at_call 47; (with_reducible refine (spec_wdBegins.calls (rdOf ByteArray.empty x6_2 x94_3) (rdOf ByteArray.empty x11_3 x100_4) t203 _ A55.out).mono ?_); rintro e w' ⟨rfl, ⟨nd, rfl⟩⟩))
                                    go_roundg k4
                                    case measure => have := HJ2.out; have := HK2.out; have := HK3.out; have := HK4.out; omega
                                    case rel => exact ⟨(!t203), (wrap64 (x100_4 + 1)), (by first | rfl | (simp; done) | (simp [*]; done) | (simp only [IntWalk.i64_left]; done) | (simp [IntWalk.i64_left]; done) | (simp [*, IntWalk.i64_left]; done)), (by first | rfl | (simp; done) | (simp [*]; done) | (simp only [IntWalk.i64_left]; done) | (simp [IntWalk.i64_left]; done) | (simp [*, IntWalk.i64_left]; done)), H', ⟨by have := HJ2.out; have := HK2.out; have := HK3.out; have := HK4.out; omega⟩, ⟨by (with_reducible repeat (first | apply Kd.R_alloc | apply Kd.R_drewN | apply Kd.R_drew)); exact HO_11.out⟩, ⟨by (with_reducible repeat (first | apply Kd.R_alloc | apply Kd.R_drewN | apply Kd.R_drew)); exact HO_92.out⟩, ⟨by (with_reducible repeat (first | apply Kd.R_alloc | apply Kd.R_drewN | apply Kd.R_drew)); exact HO_98.out⟩, ⟨by repeat (first | (with_reducible first | exact HB.out | apply below_alloc | apply pw_below_drewN | apply below_drew1) | exact HB.out)⟩⟩
                                  · replace c54 := Bool.eq_false_iff.mpr c54
                                    subst c54
                                    have H1 : (spec_MissingBehind.l3 k4 x11_3 (rdOf ByteArray.empty x6_2 x94_3) false x6_2 (x6_2.length : Int) x94_3 x11_3 (x11_3.length : Int) (wrap64 (x100_4 + 1))) = some (r1, r2) := by rw [if_neg (show ¬ (false = true) by decide)] at H; exact H
                                    clear H
                                    have H := H1
                                    clear H1
                                    have H' := Aside0.mk H
                                    clear H
                                    have p202 : 0 ≤ (x100_4 : Int) := of_decide_eq_true (by first | (with_reducible assumption) | assumption)
                                    have q202 : x100_4 < (x11_3.length : Int) := of_decide_eq_true (by first | (with_reducible assumption) | assumption)
                                    obtain ⟨ad202, e202, hx202_0⟩ := Kd.at_string (Kd.R_reads' HO_98.out).2.2 x100_4 p202 q202
                                    cases e202
                                    replace p202 := eq_true p202
                                    replace q202 := eq_true q202
                                    go_wp2
                                    go_roundg k4
                                    case measure => have := HJ2.out; have := HK2.out; have := HK3.out; have := HK4.out; omega
                                    case rel => exact ⟨(false), (wrap64 (x100_4 + 1)), (by first | rfl | (simp; done) | (simp [*]; done) | (simp only [IntWalk.i64_left]; done) | (simp [IntWalk.i64_left]; done) | (simp [*, IntWalk.i64_left]; done)), (by first | rfl | (simp; done) | (simp [*]; done) | (simp only [IntWalk.i64_left]; done) | (simp [IntWalk.i64_left]; done) | (simp [*, IntWalk.i64_left]; done)), H', ⟨by have := HJ2.out; have := HK2.out; have := HK3.out; have := HK4.out; omega⟩, ⟨by (with_reducible repeat (first | apply Kd.R_alloc | apply Kd.R_drewN | apply Kd.R_drew)); exact HO_11.out⟩, ⟨by (with_reducible repeat (first | apply Kd.R_alloc | apply Kd.R_drewN | apply Kd.R_drew)); exact HO_92.out⟩, ⟨by (with_reducible repeat (first | apply Kd.R_alloc | apply Kd.R_drewN | apply Kd.R_drew)); exact HO_98.out⟩, ⟨by repeat (first | (with_reducible first | exact HB.out | apply below_alloc | apply pw_below_drewN | apply below_drew1) | exact HB.out)⟩⟩
                                · rw [if_neg c53] at H
                                  exact absurd H (by simp)
                              · rw [if_neg c52] at H
                                exact absurd H (by simp)
                            · rw [if_neg c51] at H
                              have c51b0 : decide (x100_4 < (x11_3.length : Int)) = false := decide_eq_false c51
                              clear c51
                              by_cases c56 : x14_4 = true
                              · subst c56
                                have H1 : (if x11_3.length < 8796093022208 then (spec_MissingBehind.l2 k4 (x11_3 ++ [(rdOf ByteArray.empty x6_2 x94_3)]) x6_2 (x6_2.length : Int) (wrap64 (x94_3 + 1))) else (none)) = some (r1, r2) := by rw [if_pos rfl] at H; exact H
                                clear H
                                have H := H1
                                clear H1
                                by_cases c57 : x11_3.length < 8796093022208
                                · rw [if_pos c57] at H
                                  have LMc57 := Aside0.mk c57
                                  clear c57
                                  obtain ⟨y204, hy204⟩ : ∃ y_ : List ByteArray, y_ = (x11_3 ++ [(rdOf ByteArray.empty x6_2 x94_3)]) := ⟨_, rfl⟩
                                  replace H : (spec_MissingBehind.l2 k4 y204 x6_2 (x6_2.length : Int) (wrap64 (x94_3 + 1))) = some (r1, r2) := by first | (rw [hy204]; with_reducible exact H) | (have H2_ := (Option.bind_some _ _).symm.trans H; rw [hy204]; with_reducible exact H2_) | (have H2_ := (Option.bind_some _ _).symm.trans H; with_reducible exact H2_) | with_reducible exact H | (rw [hy204]; exact H) | exact H
                                  have Ny204 := Aside0.mk hy204
                                  clear hy204
                                  have H' := Aside0.mk H
                                  clear H
                                  go_wp2_with (first | ((with_reducible refine gate_builtin (b := .append) (xs := #[.tmp 113, .tmp 115]) rfl ?_); (try (refine gate_guard (by rfl) ?_; dsimp only)); at_builtin; refine Kd.R_append Kd.string (w0 := w) w.heap.size rfl (.tmp 113) (.tmp 115) 22 9 (.string ⟨#[]⟩) 16 rfl Tryd.underlying22 info9 rfl (by decide) (by omega) (.slice Ao50 x11_3.length co50) x11_3 (rdOf ByteArray.empty x6_2 x94_3) [.string (rdOf ByteArray.empty x6_2 x94_3)] (fun k_ => some k_ ≠ (.slice (some ad201) x6_2.length co46 : Value).ownBlock) (fun _ => False) rfl rfl ?aP (fun _ hk => hk.elim) ?aF ?aO ?aB ?aS ?aL ?_; (case aP => exact rfl); (case aB => exact (by repeat (first | (with_reducible first | exact HB.out | apply below_alloc | apply pw_below_drewN | apply below_drew1) | exact HB.out))); (case aF => exact (fun k_ hk => Kd.fresh' (Kd.R_lt (by (with_reducible repeat (first | apply Kd.R_alloc | apply Kd.R_drewN | apply Kd.R_drew)); exact HO_92.out)) k_ hk)); (case aO => exact (by (with_reducible repeat (first | apply Kd.R_alloc | apply Kd.R_drewN | apply Kd.R_drew)); exact HO_11.out)); (case aS => exact (below_size (by repeat (first | (with_reducible first | exact HB.out | apply below_alloc | apply pw_below_drewN | apply below_drew1) | exact HB.out)))); (case aL => have := LMc57.out; omega); intro v205 w58 ho hb hg hat; rw [← Ny204.out] at ho; have n0_ := Aside0.mk (Kd.R_after (ok := (fun _ => True)) (by (with_reducible repeat (first | apply Kd.R_alloc | apply Kd.R_drewN | apply Kd.R_drew)); exact Kd.R_mono HO_92.out (fun _ hk => ⟨trivial, hk.1⟩)) hg hat); have n1_ := Aside0.mk (hb); have n2_ := Aside0.mk (ho); clear HO_92; clear HB; clear HO_11; have HO_92 := n0_; have HB := n1_; have HO206 := n2_; clear n0_ n1_ n2_; clear ho hb hg hat))
                                  go_roundg k4
                                  case measure => have := HJ2.out; have := HK2.out; have := HK3.out; have := HK4.out; omega
                                  case rel => exact ⟨(y204), (wrap64 (x94_3 + 1)), (by first | rfl | (simp; done) | (simp [*]; done) | (simp only [IntWalk.i64_left]; done) | (simp [IntWalk.i64_left]; done) | (simp [*, IntWalk.i64_left]; done)), H', ⟨by have := HJ2.out; have := HK2.out; have := HK3.out; have := HK4.out; omega⟩, ⟨by (with_reducible repeat (first | apply Kd.R_alloc | apply Kd.R_drewN | apply Kd.R_drew)); exact HO206.out⟩, ⟨by (with_reducible repeat (first | apply Kd.R_alloc | apply Kd.R_drewN | apply Kd.R_drew)); exact Kd.R_mono HO_92.out (fun _ hk => hk.2)⟩, ⟨by repeat (first | (with_reducible first | exact HB.out | apply below_alloc | apply pw_below_drewN | apply below_drew1) | exact HB.out)⟩⟩
                                · rw [if_neg c57] at H
                                  exact absurd H (by simp)
                              · replace c56 := Bool.eq_false_iff.mpr c56
                                subst c56
                                have H1 : (spec_MissingBehind.l2 k4 x11_3 x6_2 (x6_2.length : Int) (wrap64 (x94_3 + 1))) = some (r1, r2) := by rw [if_neg (show ¬ (false = true) by decide)] at H; exact H
                                clear H
                                have H := H1
                                clear H1
                                have H' := Aside0.mk H
                                clear H
                                go_wp2
                                go_roundg k4
                                case measure => have := HJ2.out; have := HK2.out; have := HK3.out; have := HK4.out; omega
                                case rel => exact ⟨(x11_3), (wrap64 (x94_3 + 1)), (by first | rfl | (simp; done) | (simp [*]; done) | (simp only [IntWalk.i64_left]; done) | (simp [IntWalk.i64_left]; done) | (simp [*, IntWalk.i64_left]; done)), H', ⟨by have := HJ2.out; have := HK2.out; have := HK3.out; have := HK4.out; omega⟩, ⟨by (with_reducible repeat (first | apply Kd.R_alloc | apply Kd.R_drewN | apply Kd.R_drew)); exact HO_11.out⟩, ⟨by (with_reducible repeat (first | apply Kd.R_alloc | apply Kd.R_drewN | apply Kd.R_drew)); exact Kd.R_mono HO_92.out (fun _ hk => hk.1)⟩, ⟨by repeat (first | (with_reducible first | exact HB.out | apply below_alloc | apply pw_below_drewN | apply below_drew1) | exact HB.out)⟩⟩
                      · rw [if_neg c49] at H
                        exact absurd H (by simp)
                    · rw [if_neg c48] at H
                      exact absurd H (by simp)
                  · rw [if_neg c47] at H
                    have c47b0 : decide (x94_3 < (x6_2.length : Int)) = false := decide_eq_false c47
                    clear c47
                    by_cases c59 : (x11_3.length : Int) > 12
                    · rw [if_pos c59] at H
                      have c59b0 : decide (12 < (x11_3.length : Int)) = true := decide_eq_true c59
                      have c59b1 : decide (12 < x11_3.length) = true := decide_eq_true (by omega)
                      clear c59
                      simp only [Option.some.injEq, Prod.mk.injEq] at H
                      obtain ⟨rfl, rfl⟩ := H
                      obtain ⟨Ao60, co60, eo60⟩ := Kd.R_slice HO_11.out
                      subst eo60
                      go_wp2
                      go_ret2
                      exact ⟨_, by first | rfl | (simp [errW_none, errW_some] <;> rfl) | (simp [*, errW_none, errW_some] <;> rfl; done) | (generalize ByteArray.toList _ = q_; cases q_ <;> rfl), by first | exact Kd.R_nil _ _ _ _ _ | exact Kd.N_nil _ _ _ _ _ | exact Kd.V_nil _ _ _ _ _ | exact Kd.Q_nil _ _ _ _ _ | exact Kd.S_nil _ _ _ _ _, by repeat (first | (with_reducible first | exact HB.out | apply below_alloc | apply pw_below_drewN | apply below_drew1) | exact HB.out)⟩
                    · rw [if_neg c59] at H
                      have c59b0 : decide (12 < (x11_3.length : Int)) = false := decide_eq_false c59
                      have c59b1 : decide (12 < x11_3.length) = false := decide_eq_false (by omega)
                      clear c59
                      simp only [Option.some.injEq, Prod.mk.injEq] at H
                      obtain ⟨rfl, rfl⟩ := H
                      obtain ⟨Ao61, co61, eo61⟩ := Kd.R_slice HO_11.out
                      subst eo61
                      go_wp2
                      go_ret2
                      exact ⟨_, by first | rfl | (simp [errW_none, errW_some] <;> rfl) | (simp [*, errW_none, errW_some] <;> rfl; done) | (generalize ByteArray.toList _ = q_; cases q_ <;> rfl), by (with_reducible repeat (first | apply Kd.R_alloc | apply Kd.R_drewN | apply Kd.R_drew)); exact Kd.R_mono HO_11.out (fun _ hk => trivial), by repeat (first | (with_reducible first | exact HB.out | apply below_alloc | apply pw_below_drewN | apply below_drew1) | exact HB.out)⟩

end Go.Proofs.YtaglbacldonflaaDoor.XFnExactMissingBehind
