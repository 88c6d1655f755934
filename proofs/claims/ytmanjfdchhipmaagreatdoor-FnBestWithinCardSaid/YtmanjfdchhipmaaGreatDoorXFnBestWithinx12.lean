-- by wip/shake.py
import Derived.Test.YtmanjfdchhipmaaGreatDoorXFnBestWithinx0
import Derived.Test.YtmanjfdchhipmaaGreatDoorXFnBestWithinx11
namespace Go.Proofs.YtmanjfdchhipmaaGreatDoor.XFnBestWithin
set_option maxHeartbeats 8000000
set_option maxRecDepth 100000
open Go.RowKit Go.Proofs.YtmanjfdchhipmaaGreatDoor.Hand Go.Proofs.YtmanjfdchhipmaaGreatDoorW.PrintWords Go.Proofs.YtmanjfdchhipmaaGreatDoorW.PrintLast Go.Proofs.YtmanjfdchhipmaaGreatDoorW.PrintMore
attribute [local go_sem] max2_int min2_int max_two min_two max_three min_three max_four min_four   -- for this text's walks alone
set_option linter.unusedVariables false
set_option linter.unusedSimpArgs false
mutual
def laws_yPrefix.l0 : Nat → List ByteArray → List ByteArray → Int → Int → Option (Bool)
 | 0, _, _, _, _ => none
 | k + 1, x0, x7, x8, x9 => if x9 < x8 then (if 0 ≤ x9 then (if x9 < (x7.length : Int) then (laws_yPrefix.l1 k x0 x9 (rdOf ByteArray.empty x7 x9) x7 x8 x9 x0 (x0.length : Int) 0) else (none)) else (none)) else (some true)
def laws_yPrefix.l1 : Nat → List ByteArray → Int → ByteArray → List ByteArray → Int → Int → List ByteArray → Int → Int → Option (Bool)
 | 0, _, _, _, _, _, _, _, _, _ => none
 | k + 1, x0, x3, x4, x7, x8, x9, x14, x15, x16 => if x16 < x15 then (if 0 ≤ x16 then (if x16 < (x14.length : Int) then (if x3 = x16 then (laws_yPrefix.l1 k x0 x3 x4 x7 x8 x9 x14 x15 (wrap64 (x16 + 1))) else ((laws_yBegins.f x4 (rdOf ByteArray.empty x14 x16)).bind fun t424 => (if t424 = true then (some false) else (laws_yPrefix.l1 k x0 x3 x4 x7 x8 x9 x14 x15 (wrap64 (x16 + 1)))))) else (none)) else (none)) else (laws_yPrefix.l0 k x0 x7 x8 (wrap64 (x9 + 1)))
end
def laws_yPrefix.f (k : Nat) (l0 : List ByteArray) : Option (Bool) := laws_yPrefix.l0 k l0 l0 (l0.length : Int) 0
theorem laws_yPrefix.mono_l : ∀ k, (∀ y0 y1 y2 y3, LeO (laws_yPrefix.l0 k y0 y1 y2 y3) (laws_yPrefix.l0 (k + 1) y0 y1 y2 y3)) ∧ (∀ y0 y1 y2 y3 y4 y5 y6 y7 y8, LeO (laws_yPrefix.l1 k y0 y1 y2 y3 y4 y5 y6 y7 y8) (laws_yPrefix.l1 (k + 1) y0 y1 y2 y3 y4 y5 y6 y7 y8))
 | 0 => ⟨fun _ _ _ _ r h => by simp [laws_yPrefix.l0] at h, fun _ _ _ _ _ _ _ _ _ r h => by simp [laws_yPrefix.l1] at h⟩
 | k + 1 => by
  obtain ⟨ih0, ih1⟩ := laws_yPrefix.mono_l k
  refine ⟨?_, ?_⟩
  ·intro y0 y1 y2 y3
   unfold laws_yPrefix.l0
   repeat' first
   | (with_reducible first | exact ih0 _ _ _ _ | exact ih1 _ _ _ _ _ _ _ _ _ | exact LeO.refl _ | exact LeO.none _ | refine LeO.ite ?_ ?_ | refine LeO.bind ?_ (fun _ => ?_))
   | exact ih0 _ _ _ _
   | exact ih1 _ _ _ _ _ _ _ _ _
   | exact LeO.none _
   | refine LeO.ite ?_ ?_
   | refine LeO.bind ?_ (fun _ => ?_)
  ·intro y0 y1 y2 y3 y4 y5 y6 y7 y8
   unfold laws_yPrefix.l1
   repeat' first
   | (with_reducible first | exact ih0 _ _ _ _ | exact ih1 _ _ _ _ _ _ _ _ _ | exact LeO.refl _ | exact LeO.none _ | refine LeO.ite ?_ ?_ | refine LeO.bind ?_ (fun _ => ?_))
   | exact ih0 _ _ _ _
   | exact ih1 _ _ _ _ _ _ _ _ _
   | exact LeO.none _
   | refine LeO.ite ?_ ?_
   | refine LeO.bind ?_ (fun _ => ?_)
theorem laws_yPrefix.mono : ∀ a0 k, LeO (laws_yPrefix.f k a0) (laws_yPrefix.f (k + 1) a0) := by
 intro a0 k
 obtain ⟨ih0, ih1⟩ := laws_yPrefix.mono_l k
 unfold laws_yPrefix.f
 repeat' first
   | (with_reducible first | exact ih0 _ _ _ _ | exact ih1 _ _ _ _ _ _ _ _ _ | exact LeO.refl _ | exact LeO.none _ | refine LeO.ite ?_ ?_ | refine LeO.bind ?_ (fun _ => ?_))
   | exact ih0 _ _ _ _
   | exact ih1 _ _ _ _ _ _ _ _ _
   | exact LeO.none _
   | refine LeO.ite ?_ ?_
   | refine LeO.bind ?_ (fun _ => ?_)
theorem laws_yPrefix.calls (k : Nat) (A0 : Option Addr) (c0 : Nat) (l0 : List ByteArray) (r : Bool) (w : World) (hr0 : Kd.C Kd.string w A0 l0.length l0) (hc0 : l0.length ≤ c0) (h : laws_yPrefix.f k l0 = some r) :
  Calls Tryz.prog 17 #[.slice A0 l0.length c0] w fun e w' => e = .returned (.bool r) ∧ Drawn0 w w' := by
 have HR0 := Aside0.mk hr0
 have HC0 := Aside0.mk hc0
 clear hr0 hc0
 have H : (laws_yPrefix.l0 k l0 l0 (l0.length : Int) 0) = some r := h
 clear h
 have H' := Aside0.mk H
 clear H
 go_enter Tryz.func17, Tryz.ntmps17
 go_wp2
 go_loopg [9] k (fun kq v9 w' => ∃ (x9_1 : Int), v9 = .int .i64 x9_1 ∧ Aside0 (laws_yPrefix.l0 kq l0 l0 (l0.length : Int) x9_1 = some r) ∧ Aside0 (kq ≤ k) ∧ Drawn0 w w')
 case atStart => exact ⟨(0), zE1, H', ⟨Nat.le_refl _⟩, by repeat (first | exact Drawn0.refl _ | apply Drawn0.step)⟩
 case round =>
  clear H'
  try clear c1
  obtain ⟨x9_1, rfl, HA, HK1, ⟨m1, rfl⟩⟩ := hrel
  cases gk with
  | zero => exact absurd HA.out (by simp [laws_yPrefix.l0])
  | succ k1 =>
   have H := HA.out
   clear HA
   simp only [laws_yPrefix.l0] at H
   by_cases c2 : x9_1 < (l0.length : Int)
   ·rw [if_pos c2] at H
    have c2b0 : decide (x9_1 < (l0.length : Int)) = true := decide_eq_true c2
    clear c2
    by_cases c3 : 0 ≤ x9_1
    ·rw [if_pos c3] at H
     have c3b0 : decide (0 ≤ x9_1) = true := decide_eq_true c3
     clear c3
     by_cases c4 : x9_1 < (l0.length : Int)
     ·rw [if_pos c4] at H
      have c4b0 : decide (x9_1 < (l0.length : Int)) = true := decide_eq_true c4
      clear c4
      have H' := Aside0.mk H
      clear H
      have p422 : 0 ≤ (x9_1 : Int) := zD
      have q422 : x9_1 < (l0.length : Int) := zD
      obtain ⟨ad422, e422, hx422_0⟩ := Kd.at_string HR0.out x9_1 p422 q422
      cases e422
      replace p422 := eq_true p422
      replace q422 := eq_true q422
      go_wp2
      go_loopg [16] k1 (fun kq v16 w' => ∃ (x16_2 : Int), v16 = .int .i64 x16_2 ∧ Aside0 (laws_yPrefix.l1 kq l0 x9_1 (rdOf ByteArray.empty l0 x9_1) l0 (l0.length : Int) x9_1 l0 (l0.length : Int) x16_2 = some r) ∧ Aside0 (kq ≤ k1) ∧ Drawn0 w w')
      case atStart => exact ⟨(0), zE1, H', ⟨Nat.le_refl _⟩, by repeat (first | exact Drawn0.refl _ | apply Drawn0.step)⟩
      case round =>
       clear H'
       try clear c1
       try clear c2
       try clear c2b0
       try clear p2
       try clear c3
       try clear c3b0
       try clear c4
       try clear c4b0
       try clear p4
       try clear q4
       try clear hx4
       try clear hx422_0
       try clear p422
       try clear q422
       obtain ⟨x16_2, rfl, HA, HK2, ⟨m2, rfl⟩⟩ := hrel
       cases gk with
       | zero => exact absurd HA.out (by simp [laws_yPrefix.l1])
       | succ k2 =>
        have H := HA.out
        clear HA
        simp only [laws_yPrefix.l1] at H
        by_cases c5 : x16_2 < (l0.length : Int)
        ·rw [if_pos c5] at H
         have c5b0 : decide (x16_2 < (l0.length : Int)) = true := decide_eq_true c5
         clear c5
         by_cases c6 : 0 ≤ x16_2
         ·rw [if_pos c6] at H
          have c6b0 : decide (0 ≤ x16_2) = true := decide_eq_true c6
          clear c6
          by_cases c7 : x16_2 < (l0.length : Int)
          ·rw [if_pos c7] at H
           have c7b0 : decide (x16_2 < (l0.length : Int)) = true := decide_eq_true c7
           clear c7
           by_cases c8 : x9_1 = x16_2
           ·rw [if_pos c8] at H
            have c8b0 : (x9_1 == x16_2) = true := beq_iff_eq.mpr c8
            have c8b1 : (x9_1 != x16_2) = false := bne_eq_false_iff_eq.mpr c8
            clear c8
            have H' := Aside0.mk H
            clear H
            have p423 : 0 ≤ (x16_2 : Int) := zD
            have q423 : x16_2 < (l0.length : Int) := zD
            obtain ⟨ad423, e423, hx423_0⟩ := Kd.at_string HR0.out x16_2 p423 q423
            obtain rfl : ad422 = ad423 := (by injection e423)
            replace p423 := eq_true p423
            replace q423 := eq_true q423
            go_wp2
            go_roundg k2
            case measure => have := HK1.out; have := HK2.out; omega
            case rel => exact ⟨(wrap64 (x16_2 + 1)), zE1, H', ⟨by have := HK1.out; have := HK2.out; omega⟩, by repeat (first | exact Drawn0.refl _ | apply Drawn0.step)⟩
           ·rw [if_neg c8] at H
            have c8b0 : (x9_1 == x16_2) = false := beq_eq_false_iff_ne.mpr c8
            have c8b1 : (x9_1 != x16_2) = true := bne_iff_ne.mpr c8
            replace H := Option.bind_eq_some_iff.mp H
            obtain ⟨t424, A90, H⟩ := H
            (try dsimp only at H)
            have A9 := Aside0.mk A90
            clear A90
            by_cases c10 : t424 = true
            ·subst c10
             rw [if_pos rfl] at H
             obtain rfl := Option.some.inj H
             have p423 : 0 ≤ (x16_2 : Int) := zD
             have q423 : x16_2 < (l0.length : Int) := zD
             obtain ⟨ad423, e423, hx423_0⟩ := Kd.at_string HR0.out x16_2 p423 q423
             obtain rfl : ad422 = ad423 := (by injection e423)
             replace p423 := eq_true p423
             replace q423 := eq_true q423
             go_wp2_with (first | (go_at_call 64; (with_reducible refine (laws_yBegins.calls (rdOf ByteArray.empty l0 x9_1) (rdOf ByteArray.empty l0 x16_2) true _ A9.out).mono ?_); rintro e w' ⟨rfl, ⟨nd, rfl⟩⟩))
             go_ret
             exact ⟨by first | rfl | (simp; done) | (simp [*]; done) | (simp only [IntWalk.i64_left]; done) | (simp [IntWalk.i64_left]; done) | (simp [*, IntWalk.i64_left]; done), by repeat (first | exact Drawn0.refl _ | apply Drawn0.step)⟩
            ·replace c10 := Bool.eq_false_iff.mpr c10
             subst c10
             rw [if_neg zN] at H
             have H' := Aside0.mk H
             clear H
             have p423 : 0 ≤ (x16_2 : Int) := zD
             have q423 : x16_2 < (l0.length : Int) := zD
             obtain ⟨ad423, e423, hx423_0⟩ := Kd.at_string HR0.out x16_2 p423 q423
             obtain rfl : ad422 = ad423 := (by injection e423)
             replace p423 := eq_true p423
             replace q423 := eq_true q423
             go_wp2_with (first | (go_at_call 64; (with_reducible refine (laws_yBegins.calls (rdOf ByteArray.empty l0 x9_1) (rdOf ByteArray.empty l0 x16_2) false _ A9.out).mono ?_); rintro e w' ⟨rfl, ⟨nd, rfl⟩⟩))
             go_roundg k2
             case measure => have := HK1.out; have := HK2.out; omega
             case rel => exact ⟨(wrap64 (x16_2 + 1)), zE1, H', ⟨by have := HK1.out; have := HK2.out; omega⟩, by repeat (first | exact Drawn0.refl _ | apply Drawn0.step)⟩
          ·rw [if_neg c7] at H
           exact absurd H (by simp)
         ·rw [if_neg c6] at H
          exact absurd H (by simp)
        ·rw [if_neg c5] at H
         have c5b0 : decide (x16_2 < (l0.length : Int)) = false := decide_eq_false c5
         clear c5
         have H' := Aside0.mk H
         clear H
         go_wp2
         go_roundg k2
         case measure => have := HK1.out; have := HK2.out; omega
         case rel => exact ⟨(wrap64 (x9_1 + 1)), zE1, H', ⟨by have := HK1.out; have := HK2.out; omega⟩, by repeat (first | exact Drawn0.refl _ | apply Drawn0.step)⟩
     ·rw [if_neg c4] at H
      exact absurd H (by simp)
    ·rw [if_neg c3] at H
     exact absurd H (by simp)
   ·rw [if_neg c2] at H
    have c2b0 : decide (x9_1 < (l0.length : Int)) = false := decide_eq_false c2
    clear c2
    obtain rfl := Option.some.inj H
    go_wp2
    go_ret
    exact ⟨by first | rfl | (simp; done) | (simp [*]; done) | (simp only [IntWalk.i64_left]; done) | (simp [IntWalk.i64_left]; done) | (simp [*, IntWalk.i64_left]; done), by repeat (first | exact Drawn0.refl _ | apply Drawn0.step)⟩
def impl_IsWord.f (a0 : ByteArray) : Option (Bool) := (impl_isWord.f a0).bind fun t425 => (some t425)
theorem impl_IsWord.calls (a0 : ByteArray) (r : Bool) (w : World) (h : impl_IsWord.f a0 = some r) :
  Calls Tryz.prog 18 #[.string a0] w fun e w' => e = .returned (.bool r) ∧ Below w.heap.size w w' := by
 have HB := Aside0.mk (Below.refl w.heap.size w)
 have H : ((impl_isWord.f a0).bind fun t425 => (some t425)) = some r := h
 clear h
 replace H := Option.bind_eq_some_iff.mp H
 obtain ⟨t425, A20, H⟩ := H
 (try dsimp only at H)
 have A2 := Aside0.mk A20
 clear A20
 obtain rfl := Option.some.inj H
 go_enter Tryz.func18, Tryz.ntmps18
 go_wp2_with (first | ((with_reducible refine gate_callee (f := 65) rfl ?_); refine goesL_ (some 4) rfl rfl Tryz.func65 (by kernel_rfl) rfl #[.string a0] rfl (by (try simp only [List.map_toArray, List.map_cons, List.map_nil]); first | done | rfl | (simp only [List.length_drop, List.length_take]; rfl)) ?_; (with_reducible refine (impl_isWord.calls a0 t425 _ A2.out).mono ?_); rintro e w3 ⟨rfl, hb⟩; refine ⟨_, rfl, ?_⟩; have n0_ := Aside0.mk (below_step (zB HB.out) hb); clear HB; have HB := n0_; clear n0_; (try clear hb); (try clear hb2); (try clear hk); (try clear hi)))
 go_ret
 exact ⟨zF, zB HB.out⟩
end Go.Proofs.YtmanjfdchhipmaaGreatDoor.XFnBestWithin
