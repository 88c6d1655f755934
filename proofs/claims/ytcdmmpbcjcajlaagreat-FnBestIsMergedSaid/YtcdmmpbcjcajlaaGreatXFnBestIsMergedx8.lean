-- Cut out of longer texts by a program of this session (wip/shake.py): what the claim uses.
import Derived.Test.YtcdmmpbcjcajlaaGreatXFnBestIsMergedx0
import Derived.Test.YtcdmmpbcjcajlaaGreatXFnBestIsMergedx2
import Derived.Test.YtcdmmpbcjcajlaaGreatXFnBestIsMergedx6
import Derived.Test.YtcdmmpbcjcajlaaGreatXFnBestIsMergedx7
namespace Go.Proofs.YtcdmmpbcjcajlaaGreat.XFnBestIsMerged
open Go.RowKit Go.Proofs.YtcdmmpbcjcajlaaGreat.Hand Go.Proofs.YtcdmmpbcjcajlaaGreatW.PrintWords Go.Proofs.YtcdmmpbcjcajlaaGreatW.PrintLast Go.Proofs.YtcdmmpbcjcajlaaGreatW.PrintMore
attribute [local go_sem] max2_int min2_int max_two min_two max_three min_three max_four min_four   -- for this text's walks alone
set_option linter.unusedVariables false
set_option linter.unusedSimpArgs false
def impl_parts.l0 : Nat → Int → Int → List Int → Int → Int → Option (Int)
  | 0, _, _, _, _, _ => none
  | k + 1, x1, x5, x8, x9, x10 => if x10 < x9 then (if 0 ≤ x10 then (if x10 < (x8.length : Int) then ((impl_power.f k x1 (wrap64 (8 - (rd x8 x10)))).bind fun t305 => (impl_parts.l0 k x1 (wrap64 (x5 + t305)) x8 x9 (wrap64 (x10 + 1)))) else (none)) else (none)) else (some x5)
def impl_parts.f (k : Nat) (l0 : List Int) (a1 : Int) : Option (Int) := impl_parts.l0 k a1 0 l0 (l0.length : Int) 0
theorem impl_parts.mono_l : ∀ k, (∀ y0 y1 y2 y3 y4, LeO (impl_parts.l0 k y0 y1 y2 y3 y4) (impl_parts.l0 (k + 1) y0 y1 y2 y3 y4))
  | 0 => fun _ _ _ _ _ r h => by simp [impl_parts.l0] at h
  | k + 1 => by
    have ih0 := impl_parts.mono_l k
    · intro y0 y1 y2 y3 y4
      unfold impl_parts.l0
      repeat' first
      | (with_reducible exact ih0 _ _ _ _ _)
      | (with_reducible exact impl_power.mono _ _ _)
      | (with_reducible exact LeO.refl _)
      | (with_reducible exact LeO.none _)
      | (with_reducible refine LeO.ite ?_ ?_)
      | (with_reducible refine LeO.bind ?_ (fun _ => ?_))
      | exact ih0 _ _ _ _ _
      | exact impl_power.mono _ _ _
      | exact LeO.none _
      | refine LeO.ite ?_ ?_
      | refine LeO.bind ?_ (fun _ => ?_)
theorem impl_parts.mono : ∀ a0 a1 k, LeO (impl_parts.f k a0 a1) (impl_parts.f (k + 1) a0 a1) := by
  intro a0 a1 k
  have ih0 := impl_parts.mono_l k
  unfold impl_parts.f
  repeat' first
      | (with_reducible exact ih0 _ _ _ _ _)
      | (with_reducible exact impl_power.mono _ _ _)
      | (with_reducible exact LeO.refl _)
      | (with_reducible exact LeO.none _)
      | (with_reducible refine LeO.ite ?_ ?_)
      | (with_reducible refine LeO.bind ?_ (fun _ => ?_))
      | exact ih0 _ _ _ _ _
      | exact impl_power.mono _ _ _
      | exact LeO.none _
      | refine LeO.ite ?_ ?_
      | refine LeO.bind ?_ (fun _ => ?_)
set_option maxHeartbeats 8000000 in
set_option maxRecDepth 100000 in
theorem impl_parts.calls (k : Nat) (A0 : Option Addr) (c0 : Nat) (l0 : List Int) (a1 : Int) (r : Int) (w : World) (hr0 : Kd.C (Kd.int .i64) w A0 l0.length l0) (hc0 : l0.length ≤ c0) (h : impl_parts.f k l0 a1 = some r) :
    Calls Tryz.prog 80 #[.slice A0 l0.length c0, .int .i64 a1] w fun e w' => e = .returned (.int .i64 r) ∧ Drawn0 w w' := by
  have HR0 := Aside0.mk hr0
  have HC0 := Aside0.mk hc0
  clear hr0 hc0
  have H : (impl_parts.l0 k a1 0 l0 (l0.length : Int) 0) = some r := h
  clear h
  have H' := Aside0.mk H
  clear H
  go_enter Tryz.func80, Tryz.ntmps80
  go_wp2
  go_loopg [5, 10] k (fun kq v5 v10 w' => ∃ (x5_1 : Int) (x10_1 : Int), v5 = .int .i64 x5_1 ∧ v10 = .int .i64 x10_1 ∧ Aside0 (impl_parts.l0 kq a1 x5_1 l0 (l0.length : Int) x10_1 = some r) ∧ Aside0 (kq ≤ k) ∧ Drawn0 w w')
  case atStart => exact ⟨(0), (0), (by first | rfl | (simp; done) | (simp [*]; done) | (simp only [IntWalk.i64_left]; done) | (simp [IntWalk.i64_left]; done) | (simp [*, IntWalk.i64_left]; done)), (by first | rfl | (simp; done) | (simp [*]; done) | (simp only [IntWalk.i64_left]; done) | (simp [IntWalk.i64_left]; done) | (simp [*, IntWalk.i64_left]; done)), H', ⟨Nat.le_refl _⟩, by repeat (first | exact Drawn0.refl _ | apply Drawn0.step)⟩
  case round =>
    clear H'
    try clear p2
    obtain ⟨x5_1, x10_1, rfl, rfl, HA, HK1, ⟨m1, rfl⟩⟩ := hrel
    cases gk with
    | zero => exact absurd HA.out (by simp [impl_parts.l0])
    | succ k1 =>
      have H := HA.out
      clear HA
      simp only [impl_parts.l0] at H
      by_cases c3 : x10_1 < (l0.length : Int)
      · rw [if_pos c3] at H
        have c3b0 : decide (x10_1 < (l0.length : Int)) = true := decide_eq_true c3
        clear c3
        by_cases c4 : 0 ≤ x10_1
        · rw [if_pos c4] at H
          have c4b0 : decide (0 ≤ x10_1) = true := decide_eq_true c4
          clear c4
          by_cases c5 : x10_1 < (l0.length : Int)
          · rw [if_pos c5] at H
            have c5b0 : decide (x10_1 < (l0.length : Int)) = true := decide_eq_true c5
            clear c5
            replace H := Option.bind_eq_some_iff.mp H
            obtain ⟨t305, A60, H⟩ := H
            replace H : (impl_parts.l0 k1 a1 (wrap64 (x5_1 + t305)) l0 (l0.length : Int) (wrap64 (x10_1 + 1))) = some r := H
            have A6 := Aside0.mk A60
            clear A60
            have H' := Aside0.mk H
            clear H
            have p304 : 0 ≤ (x10_1 : Int) := of_decide_eq_true (by first | (with_reducible assumption) | assumption)
            have q304 : x10_1 < (l0.length : Int) := of_decide_eq_true (by first | (with_reducible assumption) | assumption)
            obtain ⟨ad304, e304, hx304_0⟩ := Kd.at_int HR0.out x10_1 p304 q304
            cases e304
            replace p304 := eq_true p304
            replace q304 := eq_true q304
            go_wp2_with (first | ((with_reducible refine gate_callee (f := 57) rfl ?_); refine goesL_ (some 18) rfl rfl Tryz.func57 (by kernel_rfl) rfl #[.int .i64 a1, .int .i64 (wrap64 (8 - (rd l0 x10_1)))] rfl (by (try simp only [List.map_toArray, List.map_cons, List.map_nil]); first | done | rfl | (simp only [List.length_drop, List.length_take]; rfl)) ?_; (with_reducible refine (impl_power.calls k1 a1 (wrap64 (8 - (rd l0 x10_1))) t305 _ A6.out).mono ?_); rintro e w' ⟨rfl, ⟨nd, rfl⟩⟩; refine ⟨_, rfl, ?_⟩))
            go_roundg k1
            case measure => have := HK1.out; omega
            case rel => exact ⟨(wrap64 (x5_1 + t305)), (wrap64 (x10_1 + 1)), (by first | rfl | (simp; done) | (simp [*]; done) | (simp only [IntWalk.i64_left]; done) | (simp [IntWalk.i64_left]; done) | (simp [*, IntWalk.i64_left]; done)), (by first | rfl | (simp; done) | (simp [*]; done) | (simp only [IntWalk.i64_left]; done) | (simp [IntWalk.i64_left]; done) | (simp [*, IntWalk.i64_left]; done)), H', ⟨by have := HK1.out; omega⟩, by repeat (first | exact Drawn0.refl _ | apply Drawn0.step)⟩
          · rw [if_neg c5] at H
            exact absurd H (by simp)
        · rw [if_neg c4] at H
          exact absurd H (by simp)
      · rw [if_neg c3] at H
        have c3b0 : decide (x10_1 < (l0.length : Int)) = false := decide_eq_false c3
        clear c3
        obtain rfl := Option.some.inj H
        go_wp2
        go_ret
        exact ⟨by first | rfl | (simp; done) | (simp [*]; done) | (simp only [IntWalk.i64_left]; done) | (simp [IntWalk.i64_left]; done) | (simp [*, IntWalk.i64_left]; done), by repeat (first | exact Drawn0.refl _ | apply Drawn0.step)⟩
def impl_canBePrefix.f (k : Nat) (l0 : List Int) (a1 : Int) : Option (Bool) := (impl_parts.f k l0 a1).bind fun t306 => ((impl_power.f k a1 8).bind fun t307 => (some (decide (t306 ≤ t307))))
theorem impl_canBePrefix.mono : ∀ a0 a1 k, LeO (impl_canBePrefix.f k a0 a1) (impl_canBePrefix.f (k + 1) a0 a1) := by
  intro a0 a1 k
  unfold impl_canBePrefix.f
  repeat' first
      | (with_reducible exact impl_parts.mono _ _ _)
      | (with_reducible exact impl_power.mono _ _ _)
      | (with_reducible exact LeO.refl _)
      | (with_reducible exact LeO.none _)
      | (with_reducible refine LeO.ite ?_ ?_)
      | (with_reducible refine LeO.bind ?_ (fun _ => ?_))
      | exact impl_parts.mono _ _ _
      | exact impl_power.mono _ _ _
      | exact LeO.none _
      | refine LeO.ite ?_ ?_
      | refine LeO.bind ?_ (fun _ => ?_)
set_option maxHeartbeats 8000000 in
set_option maxRecDepth 100000 in
theorem impl_canBePrefix.calls (k : Nat) (A0 : Option Addr) (c0 : Nat) (l0 : List Int) (a1 : Int) (r : Bool) (w : World) (hr0 : Kd.C (Kd.int .i64) w A0 l0.length l0) (hc0 : l0.length ≤ c0) (h : impl_canBePrefix.f k l0 a1 = some r) :
    Calls Tryz.prog 65 #[.slice A0 l0.length c0, .int .i64 a1] w fun e w' => e = .returned (.bool r) ∧ Drawn0 w w' := by
  have HR0 := Aside0.mk hr0
  have HC0 := Aside0.mk hc0
  clear hr0 hc0
  have H : ((impl_parts.f k l0 a1).bind fun t306 => ((impl_power.f k a1 8).bind fun t307 => (some (decide (t306 ≤ t307))))) = some r := h
  clear h
  replace H := Option.bind_eq_some_iff.mp H
  obtain ⟨t306, A30, H⟩ := H
  replace H : ((impl_power.f k a1 8).bind fun t307 => (some (decide (t306 ≤ t307)))) = some r := H
  have A3 := Aside0.mk A30
  clear A30
  replace H := Option.bind_eq_some_iff.mp H
  obtain ⟨t307, A40, H⟩ := H
  replace H : (some (decide (t306 ≤ t307))) = some r := H
  have A4 := Aside0.mk A40
  clear A40
  obtain rfl := Option.some.inj H
  go_enter Tryz.func65, Tryz.ntmps65
  go_wp2_with (first | ((with_reducible refine gate_callee (f := 80) rfl ?_); refine goesL_ (some 7) rfl rfl Tryz.func80 (by kernel_rfl) rfl #[.slice A0 l0.length c0, .int .i64 a1] rfl (by (try simp only [List.map_toArray, List.map_cons, List.map_nil]); first | done | rfl | (simp only [List.length_drop, List.length_take]; rfl)) ?_; (with_reducible refine (impl_parts.calls k _ _ l0 a1 t306 _ ?side1 ?side2 A3.out).mono ?_); (case side1 => repeat (first | exact HR0.out | (with_reducible refine Kd.C_alloc ?_ _) | (with_reducible refine Kd.C_drewN ?_ _) | (with_reducible refine Kd.C_drew ?_))); (case side2 => exact HC0.out); rintro e w' ⟨rfl, ⟨nd, rfl⟩⟩; refine ⟨_, rfl, ?_⟩) | ((with_reducible refine gate_callee (f := 57) rfl ?_); refine goesL_ (some 9) rfl rfl Tryz.func57 (by kernel_rfl) rfl #[.int .i64 a1, .int .i64 8] rfl (by (try simp only [List.map_toArray, List.map_cons, List.map_nil]); first | done | rfl | (simp only [List.length_drop, List.length_take]; rfl)) ?_; (with_reducible refine (impl_power.calls k a1 8 t307 _ A4.out).mono ?_); rintro e w' ⟨rfl, ⟨nd, rfl⟩⟩; refine ⟨_, rfl, ?_⟩))
  go_ret
  exact ⟨by first | rfl | (simp; done) | (simp [*]; done) | (simp only [IntWalk.i64_left]; done) | (simp [IntWalk.i64_left]; done) | (simp [*, IntWalk.i64_left]; done), by repeat (first | exact Drawn0.refl _ | apply Drawn0.step)⟩
def impl_wordAt.l0 : Nat → Int → Int → List Int → Int → Option (ByteArray)
  | 0, _, _, _, _ => none
  | k + 1, x0, x2, x7, x8 => if x8 ≥ 0 then (if x2 = 0 then (none) else (if 0 ≤ (Int.tmod x0 x2) then (if (Int.tmod x0 x2) < 3 then (if 0 ≤ x8 then (if x8 < (x7.length : Int) then (impl_wordAt.l0 k (wrap64 (Int.tdiv x0 x2)) x2 (x7.set (x8 : Int).toNat (bt (⟨#[97, 98, 99]⟩ : ByteArray) (Int.tmod x0 x2))) (wrap64 (x8 - 1))) else (none)) else (none)) else (none)) else (none))) else (some (strOfNums x7))
def impl_wordAt.f (k : Nat) (a0 : Int) (a1 : Int) (a2 : Int) : Option (ByteArray) := if 0 ≤ a1 then (if (a1 : Int).toNat ≤ 281474976710656 then (impl_wordAt.l0 k a0 a2 (List.replicate (a1 : Int).toNat 0) (wrap64 (a1 - 1))) else (none)) else (none)
theorem impl_wordAt.mono_l : ∀ k, (∀ y0 y1 y2 y3, LeO (impl_wordAt.l0 k y0 y1 y2 y3) (impl_wordAt.l0 (k + 1) y0 y1 y2 y3))
  | 0 => fun _ _ _ _ r h => by simp [impl_wordAt.l0] at h
  | k + 1 => by
    have ih0 := impl_wordAt.mono_l k
    · intro y0 y1 y2 y3
      unfold impl_wordAt.l0
      repeat' first
      | (with_reducible exact ih0 _ _ _ _)
      | (with_reducible exact LeO.refl _)
      | (with_reducible exact LeO.none _)
      | (with_reducible refine LeO.ite ?_ ?_)
      | (with_reducible refine LeO.bind ?_ (fun _ => ?_))
      | exact ih0 _ _ _ _
      | exact LeO.none _
      | refine LeO.ite ?_ ?_
      | refine LeO.bind ?_ (fun _ => ?_)
theorem impl_wordAt.mono : ∀ a0 a1 a2 k, LeO (impl_wordAt.f k a0 a1 a2) (impl_wordAt.f (k + 1) a0 a1 a2) := by
  intro a0 a1 a2 k
  have ih0 := impl_wordAt.mono_l k
  unfold impl_wordAt.f
  repeat' first
      | (with_reducible exact ih0 _ _ _ _)
      | (with_reducible exact LeO.refl _)
      | (with_reducible exact LeO.none _)
      | (with_reducible refine LeO.ite ?_ ?_)
      | (with_reducible refine LeO.bind ?_ (fun _ => ?_))
      | exact ih0 _ _ _ _
      | exact LeO.none _
      | refine LeO.ite ?_ ?_
      | refine LeO.bind ?_ (fun _ => ?_)
set_option maxHeartbeats 8000000 in
set_option maxRecDepth 100000 in
theorem impl_wordAt.calls (k : Nat) (a0 : Int) (a1 : Int) (a2 : Int) (r : ByteArray) (w : World) (h : impl_wordAt.f k a0 a1 a2 = some r) :
    Calls Tryz.prog 66 #[.int .i64 a0, .int .i64 a1, .int .i64 a2] w fun e w' => e = .returned (.string r) ∧ Below w.heap.size w w' := by
  have HB := Aside0.mk (Below.refl w.heap.size w)
  have H : (if 0 ≤ a1 then (if (a1 : Int).toNat ≤ 281474976710656 then (impl_wordAt.l0 k a0 a2 (List.replicate (a1 : Int).toNat 0) (wrap64 (a1 - 1))) else (none)) else (none)) = some r := h
  clear h
  by_cases c4 : 0 ≤ a1
  · rw [if_pos c4] at H
    have c4b0 := eq_true c4
    have c4b1 : decide (0 ≤ a1) = true := decide_eq_true c4
    clear c4
    by_cases c5 : (a1 : Int).toNat ≤ 281474976710656
    · rw [if_pos c5] at H
      have c5b0 := eq_true c5
      have c5b1 : decide ((a1 : Int).toNat ≤ 281474976710656) = true := decide_eq_true c5
      clear c5
      obtain ⟨y308, hy308⟩ : ∃ y_ : List Int, y_ = (List.replicate (a1 : Int).toNat 0) := ⟨_, rfl⟩
      replace H : (impl_wordAt.l0 k a0 a2 y308 (wrap64 (a1 - 1))) = some r := by first | (rw [hy308]; with_reducible exact H) | (have H2_ := (Option.bind_some _ _).symm.trans H; rw [hy308]; with_reducible exact H2_) | (have H2_ := (Option.bind_some _ _).symm.trans H; with_reducible exact H2_) | with_reducible exact H | (rw [hy308]; exact H) | exact H
      have Ny308 := Aside0.mk hy308
      clear hy308
      have H' := Aside0.mk H
      clear H
      go_enter Tryz.func66, Tryz.ntmps66
      go_wp2_with (first | ((with_reducible refine gate_dst (N := 10) rfl ?_); refine Kd.R_make (Kd.int .u8) _ 5 rfl (N := 10) rfl 22 _ _ rfl a1 rfl rfl Tryz.underlying22 (.int .u8 0) 1 info5 rfl (by decide) (by omega) 0 (ok := fun _ => True) (okp := fun _ => True) rfl (fun _ hk => hk) trivial (of_decide_eq_true (by first | (with_reducible assumption) | assumption)) (Nat.le_trans (Nat.mul_le_mul_right _ (of_decide_eq_true (by first | (with_reducible assumption) | assumption) : a1.toNat ≤ 281474976710656)) (by omega)) (Below.refl _ _) (Nat.le_refl _) ?_; intro v309 w6 ho7 hb hg_ hnew_; clear hg_ hnew_; (first | rw [← Ny308.out] at ho7 | (simp only [Int.reduceToNat] at ho7; rw [← Ny308.out] at ho7)); have n0_ := Aside0.mk (Kd.R_lower ho7 (below_size (by repeat (first | (with_reducible first | exact HB.out | apply below_alloc | apply pw_below_drewN | apply below_drew1) | exact HB.out)))); have n1_ := Aside0.mk (below_step (by repeat (first | (with_reducible first | exact HB.out | apply below_alloc | apply pw_below_drewN | apply below_drew1) | exact HB.out)) hb); clear HB; have HO310 := n0_; have HB := n1_; clear n0_ n1_; clear hb ho7))
      go_loopg [0, 8] k (fun kq v0 v8 w' => ∃ (x0_1 : Int) (x7_1 : List Int) (x8_1 : Int), v0 = .int .i64 x0_1 ∧ v8 = .int .i64 x8_1 ∧ Aside0 (impl_wordAt.l0 kq x0_1 a2 x7_1 x8_1 = some r) ∧ Aside0 (kq ≤ k) ∧ Aside0 (Kd.R (Kd.int .u8) 5 w' w.heap.size (fun _ => True) v309 x7_1) ∧ Aside0 (Below w.heap.size w w'))
      case atStart => exact ⟨(a0), (y308), (wrap64 (a1 - 1)), (by first | rfl | (simp; done) | (simp [*]; done) | (simp only [IntWalk.i64_left]; done) | (simp [IntWalk.i64_left]; done) | (simp [*, IntWalk.i64_left]; done)), (by first | rfl | (simp; done) | (simp [*]; done) | (simp only [IntWalk.i64_left]; done) | (simp [IntWalk.i64_left]; done) | (simp [*, IntWalk.i64_left]; done)), H', ⟨Nat.le_refl _⟩, ⟨by (with_reducible repeat (first | apply Kd.R_alloc | apply Kd.R_drewN | apply Kd.R_drew)); exact HO310.out⟩, ⟨by repeat (first | (with_reducible first | exact HB.out | apply below_alloc | apply pw_below_drewN | apply below_drew1) | exact HB.out)⟩⟩
      case round =>
        clear H'
        try clear p2
        try clear c4
        try clear c4b0
        try clear c4b1
        try clear c5
        try clear c5b0
        try clear c5b1
        try clear c6
        try clear p6
        obtain ⟨x0_1, x7_1, x8_1, rfl, rfl, HA, HK1, HO_7, HB⟩ := hrel
        cases gk with
        | zero => exact absurd HA.out (by simp [impl_wordAt.l0])
        | succ k1 =>
          have H := HA.out
          clear HA
          simp only [impl_wordAt.l0] at H
          by_cases c8 : x8_1 ≥ 0
          · rw [if_pos c8] at H
            have c8b0 : decide (0 ≤ x8_1) = true := decide_eq_true c8
            clear c8
            by_cases c9 : a2 = 0
            · rw [if_pos c9] at H
              exact absurd H (by simp)
            · rw [if_neg c9] at H
              have c9b0 : (a2 == 0) = false := beq_eq_false_iff_ne.mpr c9
              have c9b1 : (a2 != 0) = true := bne_iff_ne.mpr c9
              obtain ⟨ji10, hji10⟩ : ∃ j_ : Int, (Int.tmod x0_1 a2) = j_ := ⟨_, rfl⟩
              replace H : (if 0 ≤ (ji10) then (if (ji10) < 3 then (if 0 ≤ x8_1 then (if x8_1 < (x7_1.length : Int) then (impl_wordAt.l0 k1 (wrap64 (Int.tdiv x0_1 a2)) a2 (x7_1.set (x8_1 : Int).toNat (bt (⟨#[97, 98, 99]⟩ : ByteArray) (ji10))) (wrap64 (x8_1 - 1))) else (none)) else (none)) else (none)) else (none)) = some r := by first | (rw [hji10] at H; exact H) | (simp only [hji10] at H ⊢; exact H)
              by_cases c11 : 0 ≤ (ji10)
              · rw [if_pos c11] at H
                have c11b0 : decide (0 ≤ (ji10)) = true := decide_eq_true c11
                clear c11
                by_cases c12 : (ji10) < 3
                · rw [if_pos c12] at H
                  have c12b0 : decide ((ji10) < 3) = true := decide_eq_true c12
                  clear c12
                  by_cases c14 : 0 ≤ x8_1
                  · rw [if_pos c14] at H
                    have c14b0 : decide (0 ≤ x8_1) = true := decide_eq_true c14
                    clear c14
                    by_cases c15 : x8_1 < (x7_1.length : Int)
                    · rw [if_pos c15] at H
                      have c15b0 : decide (x8_1 < (x7_1.length : Int)) = true := decide_eq_true c15
                      clear c15
                      obtain ⟨y311, hy311⟩ : ∃ y_ : List Int, y_ = (x7_1.set (x8_1 : Int).toNat (bt (⟨#[97, 98, 99]⟩ : ByteArray) (ji10))) := ⟨_, rfl⟩
                      replace H : (impl_wordAt.l0 k1 (wrap64 (Int.tdiv x0_1 a2)) a2 y311 (wrap64 (x8_1 - 1))) = some r := by first | (rw [hy311]; with_reducible exact H) | (have H2_ := (Option.bind_some _ _).symm.trans H; rw [hy311]; with_reducible exact H2_) | (have H2_ := (Option.bind_some _ _).symm.trans H; with_reducible exact H2_) | with_reducible exact H | (rw [hy311]; exact H) | exact H
                      have Ny311 := Aside0.mk hy311
                      clear hy311
                      have H' := Aside0.mk H
                      clear H
                      have p13 : 0 ≤ ((ji10) : Int) := of_decide_eq_true (by first | (with_reducible assumption) | assumption)
                      have q13 : (ji10) < (3 : Int) := of_decide_eq_true (by first | (with_reducible assumption) | assumption)
                      have hx13 := bt_at (⟨#[97, 98, 99]⟩ : ByteArray) (ji10)
                      replace p13 := eq_true p13
                      replace q13 := eq_true q13
                      have p16 : 0 ≤ (x8_1 : Int) := of_decide_eq_true (by first | (with_reducible assumption) | assumption)
                      have q16 : (x8_1 : Int) < ((x7_1.length : Int) : Int) := of_decide_eq_true (by first | (with_reducible assumption) | assumption)
                      obtain ⟨go16, co16, eo16, gb16, gl16, cl16, HG16⟩ := Kd.R_form HO_7.out (by omega)
                      (first | cases eo16 | (injection eo16 with ea_ en_ ec_; (first | subst ea_ | (injection ea_ with ea_; subst ea_)); subst ec_; clear en_))
                      have GB16 := Aside0.mk gb16
                      have GG16 := Aside0.mk HG16
                      clear gb16 gl16 HG16
                      obtain ⟨hx16_0, hf16_0⟩ := Kd.R_celln 0 HO_7.out (x8_1 : Int) p16 q16
                      replace p16 := eq_true p16
                      replace q16 := eq_true q16
                      have HP17 := Kd.R_putg HO_7.out (x8_1 : Int) (bt (⟨#[97, 98, 99]⟩ : ByteArray) (ji10))
                      go_wp2_with (first | ((with_reducible refine gate_store (t := 5) (p := 23) rfl ?_); refine store_event (t := 5) (p := 23) (v := ?vo_w18) (w1 := (wr.setCell ⟨go16, (x8_1 : Int).toNat, none⟩ (.int .u8 (bt (⟨#[97, 98, 99]⟩ : ByteArray) (ji10))))) ?hg ?ho ?hn ?hr ?_; (case ho => rfl); (case hg => rfl); (case hn => rfl); (case hr => first | (go_simp; done) | (go_simp; rfl)); intro w18 hw; have hg : wr.grownBy w18 (some go16) := (by rw [hw]; exact HP17.2); have hp_ : Kd.R (Kd.int .u8) 5 w18 w.heap.size (fun _ => True) (.slice (some ⟨go16, 0, none⟩) x7_1.length co16) y311 := (by rw [hw, Ny311.out]; exact HP17.1); clear HP17; have n0_ := Aside0.mk (hp_); have n1_ := Aside0.mk ((by rw [hw]; exact below_set (HB.out) GB16.out : Below w.heap.size w w18)); clear HO_7; clear HB; have HO_7 := n0_; have HB := n1_; clear n0_ n1_; clear hg hw hp_))
                      first | go_roundg k1 | (simp only [← hji10]; go_roundg k1)
                      case measure => have := HK1.out; omega
                      case rel => exact ⟨(wrap64 (Int.tdiv x0_1 a2)), (y311), (wrap64 (x8_1 - 1)), (by first | rfl | (simp; done) | (simp [*]; done) | (simp only [IntWalk.i64_left]; done) | (simp [IntWalk.i64_left]; done) | (simp [*, IntWalk.i64_left]; done)), (by first | rfl | (simp; done) | (simp [*]; done) | (simp only [IntWalk.i64_left]; done) | (simp [IntWalk.i64_left]; done) | (simp [*, IntWalk.i64_left]; done)), H', ⟨by have := HK1.out; omega⟩, ⟨by (with_reducible repeat (first | apply Kd.R_alloc | apply Kd.R_drewN | apply Kd.R_drew)); exact HO_7.out⟩, ⟨by repeat (first | (with_reducible first | exact HB.out | apply below_alloc | apply pw_below_drewN | apply below_drew1) | exact HB.out)⟩⟩
                    · rw [if_neg c15] at H
                      exact absurd H (by simp)
                  · rw [if_neg c14] at H
                    exact absurd H (by simp)
                · rw [if_neg c12] at H
                  exact absurd H (by simp)
              · rw [if_neg c11] at H
                exact absurd H (by simp)
          · rw [if_neg c8] at H
            have c8b0 : decide (0 ≤ x8_1) = false := decide_eq_false c8
            clear c8
            obtain rfl := Option.some.inj H
            have hcv19 := own_string (P := Tryz.prog) Tryz.underlying22 Tryz.underlying5 Tryz.underlying9 (Kd.own_of_R HO_7.out)
            go_wp2
            go_ret
            exact ⟨by first | rfl | (simp [errW_none, errW_some] <;> rfl) | (simp [*, errW_none, errW_some] <;> rfl), by repeat (first | (with_reducible first | exact HB.out | apply below_alloc | apply pw_below_drewN | apply below_drew1) | exact HB.out)⟩
    · rw [if_neg c5] at H
      exact absurd H (by simp)
  · rw [if_neg c4] at H
    exact absurd H (by simp)
mutual
def impl_FirstPrefixCode.j0 : Nat → List Int → Int → Bool → Option (List ByteArray × Bool)
  | 0, _, _, _ => none
  | k + 1, x0, x1, x23 => if x23 = true then (some (([] : List ByteArray), false)) else (impl_FirstPrefixCode.l0 k x1 (([] : List ByteArray)) 0 x0 (x0.length : Int) 0)
def impl_FirstPrefixCode.l0 : Nat → Int → List ByteArray → Int → List Int → Int → Int → Option (List ByteArray × Bool)
  | 0, _, _, _, _, _, _ => none
  | k + 1, x1, x6, x7, x25, x26, x27 => if x27 < x26 then (if 0 ≤ x27 then (if x27 < (x25.length : Int) then ((impl_power.f k x1 (wrap64 (8 - (rd x25 x27)))).bind fun t319 => (if t319 = 0 then (none) else ((impl_wordAt.f k (wrap64 (Int.tdiv x7 t319)) (rd x25 x27) x1).bind fun t320 => (if x6.length < 8796093022208 then ((impl_power.f k x1 (wrap64 (8 - (rd x25 x27)))).bind fun t324 => (impl_FirstPrefixCode.l0 k x1 (x6 ++ [t320]) (wrap64 (x7 + t324)) x25 x26 (wrap64 (x27 + 1)))) else (none))))) else (none)) else (none)) else (some (x6, true))
end
def impl_FirstPrefixCode.f (k : Nat) (l0 : List Int) (a1 : Int) : Option (List ByteArray × Bool) := (impl_areLetters.f a1).bind fun t312 => (if t312 = true then ((impl_areLengths.f k l0).bind fun t313 => (if t313 = true then ((impl_canBePrefix.f k l0 a1).bind fun t314 => (impl_FirstPrefixCode.j0 k l0 a1 (!t314))) else (impl_FirstPrefixCode.j0 k l0 a1 true))) else (impl_FirstPrefixCode.j0 k l0 a1 true))
theorem impl_FirstPrefixCode.mono_l : ∀ k, (∀ y0 y1 y2, LeO (impl_FirstPrefixCode.j0 k y0 y1 y2) (impl_FirstPrefixCode.j0 (k + 1) y0 y1 y2)) ∧ (∀ y0 y1 y2 y3 y4 y5, LeO (impl_FirstPrefixCode.l0 k y0 y1 y2 y3 y4 y5) (impl_FirstPrefixCode.l0 (k + 1) y0 y1 y2 y3 y4 y5))
  | 0 => ⟨fun _ _ _ r h => by simp [impl_FirstPrefixCode.j0] at h, fun _ _ _ _ _ _ r h => by simp [impl_FirstPrefixCode.l0] at h⟩
  | k + 1 => by
    obtain ⟨ih0, ih1⟩ := impl_FirstPrefixCode.mono_l k
    refine ⟨?_, ?_⟩
    · intro y0 y1 y2
      unfold impl_FirstPrefixCode.j0
      repeat' first
      | (with_reducible exact ih0 _ _ _)
      | (with_reducible exact ih1 _ _ _ _ _ _)
      | (with_reducible exact impl_areLengths.mono _ _)
      | (with_reducible exact impl_canBePrefix.mono _ _ _)
      | (with_reducible exact impl_power.mono _ _ _)
      | (with_reducible exact impl_wordAt.mono _ _ _ _)
      | (with_reducible exact LeO.refl _)
      | (with_reducible exact LeO.none _)
      | (with_reducible refine LeO.ite ?_ ?_)
      | (with_reducible refine LeO.bind ?_ (fun _ => ?_))
      | exact ih0 _ _ _
      | exact ih1 _ _ _ _ _ _
      | exact impl_areLengths.mono _ _
      | exact impl_canBePrefix.mono _ _ _
      | exact impl_power.mono _ _ _
      | exact impl_wordAt.mono _ _ _ _
      | exact LeO.none _
      | refine LeO.ite ?_ ?_
      | refine LeO.bind ?_ (fun _ => ?_)
    · intro y0 y1 y2 y3 y4 y5
      unfold impl_FirstPrefixCode.l0
      repeat' first
      | (with_reducible exact ih0 _ _ _)
      | (with_reducible exact ih1 _ _ _ _ _ _)
      | (with_reducible exact impl_areLengths.mono _ _)
      | (with_reducible exact impl_canBePrefix.mono _ _ _)
      | (with_reducible exact impl_power.mono _ _ _)
      | (with_reducible exact impl_wordAt.mono _ _ _ _)
      | (with_reducible exact LeO.refl _)
      | (with_reducible exact LeO.none _)
      | (with_reducible refine LeO.ite ?_ ?_)
      | (with_reducible refine LeO.bind ?_ (fun _ => ?_))
      | exact ih0 _ _ _
      | exact ih1 _ _ _ _ _ _
      | exact impl_areLengths.mono _ _
      | exact impl_canBePrefix.mono _ _ _
      | exact impl_power.mono _ _ _
      | exact impl_wordAt.mono _ _ _ _
      | exact LeO.none _
      | refine LeO.ite ?_ ?_
      | refine LeO.bind ?_ (fun _ => ?_)
theorem impl_FirstPrefixCode.mono : ∀ a0 a1 k, LeO (impl_FirstPrefixCode.f k a0 a1) (impl_FirstPrefixCode.f (k + 1) a0 a1) := by
  intro a0 a1 k
  obtain ⟨ih0, ih1⟩ := impl_FirstPrefixCode.mono_l k
  unfold impl_FirstPrefixCode.f
  repeat' first
      | (with_reducible exact ih0 _ _ _)
      | (with_reducible exact ih1 _ _ _ _ _ _)
      | (with_reducible exact impl_areLengths.mono _ _)
      | (with_reducible exact impl_canBePrefix.mono _ _ _)
      | (with_reducible exact impl_power.mono _ _ _)
      | (with_reducible exact impl_wordAt.mono _ _ _ _)
      | (with_reducible exact LeO.refl _)
      | (with_reducible exact LeO.none _)
      | (with_reducible refine LeO.ite ?_ ?_)
      | (with_reducible refine LeO.bind ?_ (fun _ => ?_))
      | exact ih0 _ _ _
      | exact ih1 _ _ _ _ _ _
      | exact impl_areLengths.mono _ _
      | exact impl_canBePrefix.mono _ _ _
      | exact impl_power.mono _ _ _
      | exact impl_wordAt.mono _ _ _ _
      | exact LeO.none _
      | refine LeO.ite ?_ ?_
      | refine LeO.bind ?_ (fun _ => ?_)
set_option maxHeartbeats 8000000 in
set_option maxRecDepth 100000 in
theorem impl_FirstPrefixCode.calls (k : Nat) (A0 : Option Addr) (c0 : Nat) (l0 : List Int) (a1 : Int) (r1 : List ByteArray) (r2 : Bool) (w : World) (hr0 : Kd.C (Kd.int .i64) w A0 l0.length l0) (hc0 : l0.length ≤ c0) (h : impl_FirstPrefixCode.f k l0 a1 = some (r1, r2)) :
    Calls Tryz.prog 39 #[.slice A0 l0.length c0, .int .i64 a1] w fun e w' => ∃ v0_ : Value, e = .returned (.tuple #[v0_, .bool r2]) ∧ Kd.R Kd.string 9 w' w.heap.size (fun _ => True) v0_ r1 ∧ Below w.heap.size w w' := by
  have HR0 := Aside0.mk hr0
  have HC0 := Aside0.mk hc0
  clear hr0 hc0
  have HB := Aside0.mk (Below.refl w.heap.size w)
  have H : ((impl_areLetters.f a1).bind fun t312 => (if t312 = true then ((impl_areLengths.f k l0).bind fun t313 => (if t313 = true then ((impl_canBePrefix.f k l0 a1).bind fun t314 => (impl_FirstPrefixCode.j0 k l0 a1 (!t314))) else (impl_FirstPrefixCode.j0 k l0 a1 true))) else (impl_FirstPrefixCode.j0 k l0 a1 true))) = some (r1, r2) := h
  clear h
  have HC3 := Aside0.mk H
  clear H
  go_enter Tryz.func39, Tryz.ntmps39
  go_upto_region 1 with (fail)
  go_cut [23] (fun v23 wc => ∃ (kq : Nat) (x23_2 : Bool), v23 = .bool x23_2 ∧ Aside0 (impl_FirstPrefixCode.j0 kq l0 a1 x23_2 = some (r1, r2)) ∧ Aside0 (kq ≤ k) ∧ Aside0 (Below w.heap.size w wc))
  case first =>
    have H := HC3.out
    clear HC3
    replace H := Option.bind_eq_some_iff.mp H
    obtain ⟨t312, A40, H⟩ := H
    replace H : (if t312 = true then ((impl_areLengths.f k l0).bind fun t313 => (if t313 = true then ((impl_canBePrefix.f k l0 a1).bind fun t314 => (impl_FirstPrefixCode.j0 k l0 a1 (!t314))) else (impl_FirstPrefixCode.j0 k l0 a1 true))) else (impl_FirstPrefixCode.j0 k l0 a1 true)) = some (r1, r2) := H
    have A4 := Aside0.mk A40
    clear A40
    by_cases c5 : t312 = true
    · subst c5
      have H1 : ((impl_areLengths.f k l0).bind fun t313 => (if t313 = true then ((impl_canBePrefix.f k l0 a1).bind fun t314 => (impl_FirstPrefixCode.j0 k l0 a1 (!t314))) else (impl_FirstPrefixCode.j0 k l0 a1 true))) = some (r1, r2) := by rw [if_pos rfl] at H; exact H
      clear H
      have H := H1
      clear H1
      replace H := Option.bind_eq_some_iff.mp H
      obtain ⟨t313, A60, H⟩ := H
      replace H : (if t313 = true then ((impl_canBePrefix.f k l0 a1).bind fun t314 => (impl_FirstPrefixCode.j0 k l0 a1 (!t314))) else (impl_FirstPrefixCode.j0 k l0 a1 true)) = some (r1, r2) := H
      have A6 := Aside0.mk A60
      clear A60
      by_cases c7 : t313 = true
      · subst c7
        have H1 : ((impl_canBePrefix.f k l0 a1).bind fun t314 => (impl_FirstPrefixCode.j0 k l0 a1 (!t314))) = some (r1, r2) := by rw [if_pos rfl] at H; exact H
        clear H
        have H := H1
        clear H1
        replace H := Option.bind_eq_some_iff.mp H
        obtain ⟨t314, A80, H⟩ := H
        replace H : (impl_FirstPrefixCode.j0 k l0 a1 (!t314)) = some (r1, r2) := H
        have A8 := Aside0.mk A80
        clear A80
        have H' := Aside0.mk H
        clear H
        go_wp2_with (first | ((with_reducible refine gate_callee (f := 28) rfl ?_); refine goesL_ (some 11) rfl rfl Tryz.func28 (by kernel_rfl) rfl #[.int .i64 a1] rfl (by (try simp only [List.map_toArray, List.map_cons, List.map_nil]); first | done | rfl | (simp only [List.length_drop, List.length_take]; rfl)) ?_; (with_reducible refine (impl_areLetters.calls a1 true _ A4.out).mono ?_); rintro e w' ⟨rfl, ⟨nd, rfl⟩⟩; refine ⟨_, rfl, ?_⟩) | (go_at_call 64; (with_reducible refine (impl_areLengths.calls k _ _ l0 true _ ?side1 ?side2 A6.out).mono ?_); (case side1 => repeat (first | exact (Kd.C_below HR0.out (by repeat (first | (with_reducible first | exact HB.out | apply below_alloc | apply pw_below_drewN | apply below_drew1) | exact HB.out))) | (with_reducible refine Kd.C_alloc ?_ _) | (with_reducible refine Kd.C_drewN ?_ _) | (with_reducible refine Kd.C_drew ?_))); (case side2 => exact HC0.out); rintro e w' ⟨rfl, ⟨nd, rfl⟩⟩) | (go_at_call 65; (with_reducible refine (impl_canBePrefix.calls k _ _ l0 a1 t314 _ ?side1 ?side2 A8.out).mono ?_); (case side1 => repeat (first | exact (Kd.C_below HR0.out (by repeat (first | (with_reducible first | exact HB.out | apply below_alloc | apply pw_below_drewN | apply below_drew1) | exact HB.out))) | (with_reducible refine Kd.C_alloc ?_ _) | (with_reducible refine Kd.C_drewN ?_ _) | (with_reducible refine Kd.C_drew ?_))); (case side2 => exact HC0.out); rintro e w' ⟨rfl, ⟨nd, rfl⟩⟩))
        go_meet
        case rel => exact ⟨_, (!t314), (by first | rfl | (simp; done) | (simp [*]; done) | (simp only [IntWalk.i64_left]; done) | (simp [IntWalk.i64_left]; done) | (simp [*, IntWalk.i64_left]; done)), H', ⟨by first | omega | exact Nat.le_refl _⟩, ⟨by repeat (first | (with_reducible first | exact HB.out | apply below_alloc | apply pw_below_drewN | apply below_drew1) | exact HB.out)⟩⟩
      · replace c7 := Bool.eq_false_iff.mpr c7
        subst c7
        have H1 : (impl_FirstPrefixCode.j0 k l0 a1 true) = some (r1, r2) := by rw [if_neg (show ¬ (false = true) by decide)] at H; exact H
        clear H
        have H := H1
        clear H1
        have H' := Aside0.mk H
        clear H
        go_wp2_with (first | ((with_reducible refine gate_callee (f := 28) rfl ?_); refine goesL_ (some 11) rfl rfl Tryz.func28 (by kernel_rfl) rfl #[.int .i64 a1] rfl (by (try simp only [List.map_toArray, List.map_cons, List.map_nil]); first | done | rfl | (simp only [List.length_drop, List.length_take]; rfl)) ?_; (with_reducible refine (impl_areLetters.calls a1 true _ A4.out).mono ?_); rintro e w' ⟨rfl, ⟨nd, rfl⟩⟩; refine ⟨_, rfl, ?_⟩) | (go_at_call 64; (with_reducible refine (impl_areLengths.calls k _ _ l0 false _ ?side1 ?side2 A6.out).mono ?_); (case side1 => repeat (first | exact (Kd.C_below HR0.out (by repeat (first | (with_reducible first | exact HB.out | apply below_alloc | apply pw_below_drewN | apply below_drew1) | exact HB.out))) | (with_reducible refine Kd.C_alloc ?_ _) | (with_reducible refine Kd.C_drewN ?_ _) | (with_reducible refine Kd.C_drew ?_))); (case side2 => exact HC0.out); rintro e w' ⟨rfl, ⟨nd, rfl⟩⟩))
        go_meet
        case rel => exact ⟨_, (true), (by first | rfl | (simp; done) | (simp [*]; done) | (simp only [IntWalk.i64_left]; done) | (simp [IntWalk.i64_left]; done) | (simp [*, IntWalk.i64_left]; done)), H', ⟨by first | omega | exact Nat.le_refl _⟩, ⟨by repeat (first | (with_reducible first | exact HB.out | apply below_alloc | apply pw_below_drewN | apply below_drew1) | exact HB.out)⟩⟩
    · replace c5 := Bool.eq_false_iff.mpr c5
      subst c5
      have H1 : (impl_FirstPrefixCode.j0 k l0 a1 true) = some (r1, r2) := by rw [if_neg (show ¬ (false = true) by decide)] at H; exact H
      clear H
      have H := H1
      clear H1
      have H' := Aside0.mk H
      clear H
      go_wp2_with (first | ((with_reducible refine gate_callee (f := 28) rfl ?_); refine goesL_ (some 11) rfl rfl Tryz.func28 (by kernel_rfl) rfl #[.int .i64 a1] rfl (by (try simp only [List.map_toArray, List.map_cons, List.map_nil]); first | done | rfl | (simp only [List.length_drop, List.length_take]; rfl)) ?_; (with_reducible refine (impl_areLetters.calls a1 false _ A4.out).mono ?_); rintro e w' ⟨rfl, ⟨nd, rfl⟩⟩; refine ⟨_, rfl, ?_⟩))
      go_meet
      case rel => exact ⟨_, (true), (by first | rfl | (simp; done) | (simp [*]; done) | (simp only [IntWalk.i64_left]; done) | (simp [IntWalk.i64_left]; done) | (simp [*, IntWalk.i64_left]; done)), H', ⟨by first | omega | exact Nat.le_refl _⟩, ⟨by repeat (first | (with_reducible first | exact HB.out | apply below_alloc | apply pw_below_drewN | apply below_drew1) | exact HB.out)⟩⟩
  case rest =>
    clear HC3
    try clear c2
    try clear p2
    try clear c3
    try clear c5
    try clear c7
    obtain ⟨kq, x23_2, rfl, HA, HJ2, HB⟩ := hcut
    cases kq with
    | zero => exact absurd HA.out (by simp [impl_FirstPrefixCode.j0])
    | succ kj2 =>
      have H := HA.out
      clear HA
      simp only [impl_FirstPrefixCode.j0] at H
      by_cases c9 : x23_2 = true
      · subst c9
        have H1 : (some (([] : List ByteArray), false)) = some (r1, r2) := by rw [if_pos rfl] at H; exact H
        clear H
        have H := H1
        clear H1
        simp only [Option.some.injEq, Prod.mk.injEq] at H
        obtain ⟨rfl, rfl⟩ := H
        go_wp2
        go_ret2
        exact ⟨_, by first | rfl | (simp [errW_none, errW_some] <;> rfl) | (simp [*, errW_none, errW_some] <;> rfl), by first | exact Kd.R_nil _ _ _ _ _ | exact Kd.N_nil _ _ _ _ _ | exact Kd.V_nil _ _ _ _ _ | exact Kd.Q_nil _ _ _ _ _ | exact Kd.S_nil _ _ _ _ _, by repeat (first | (with_reducible first | exact HB.out | apply below_alloc | apply pw_below_drewN | apply below_drew1) | exact HB.out)⟩
      · replace c9 := Bool.eq_false_iff.mpr c9
        subst c9
        have H1 : (impl_FirstPrefixCode.l0 kj2 a1 (([] : List ByteArray)) 0 l0 (l0.length : Int) 0) = some (r1, r2) := by rw [if_neg (show ¬ (false = true) by decide)] at H; exact H
        clear H
        have H := H1
        clear H1
        obtain ⟨y315, hy315⟩ : ∃ y_ : List ByteArray, y_ = (([] : List ByteArray)) := ⟨_, rfl⟩
        replace H : (impl_FirstPrefixCode.l0 kj2 a1 y315 0 l0 (l0.length : Int) 0) = some (r1, r2) := by first | (rw [hy315]; with_reducible exact H) | (have H2_ := (Option.bind_some _ _).symm.trans H; rw [hy315]; with_reducible exact H2_) | (have H2_ := (Option.bind_some _ _).symm.trans H; with_reducible exact H2_) | with_reducible exact H | (rw [hy315]; exact H) | exact H
        have Ny315 := Aside0.mk hy315
        clear hy315
        have H' := Aside0.mk H
        clear H
        go_wp2_with (first | ((with_reducible refine gate_dst (N := 24) rfl ?_); refine Kd.R_lit Kd.string _ 9 ?hg (N := 24) ?hd (xs := ([] : List ByteArray)) (inner := []) (ok := fun _ => True) (okp := fun _ => True) ?hr ?hp (fun _ hk => hk) trivial (Below.refl _ _) (Nat.le_refl _) (by simp) ?_; (case hd => rfl); (case hg => rfl); (case hr => first | (go_simp; done) | (go_simp; rfl)); (case hp => exact (Reps.none _ _)); intro v316 w10 ho11 hb hg_ hnew_; clear hg_ hnew_; (first | rw [← Ny315.out] at ho11 | (simp only [Int.reduceToNat] at ho11; rw [← Ny315.out] at ho11)); have n0_ := Aside0.mk (Kd.R_lower ho11 (below_size (by repeat (first | (with_reducible first | exact HB.out | apply below_alloc | apply pw_below_drewN | apply below_drew1) | exact HB.out)))); have n1_ := Aside0.mk (below_step (by repeat (first | (with_reducible first | exact HB.out | apply below_alloc | apply pw_below_drewN | apply below_drew1) | exact HB.out)) hb); clear HB; have HO317 := n0_; have HB := n1_; clear n0_ n1_; clear hb ho11))
        go_loopg [6, 7, 27] kj2 (fun kq v6 v7 v27 w' => ∃ (x6_2 : List ByteArray) (x7_2 : Int) (x27_2 : Int), v7 = .int .i64 x7_2 ∧ v27 = .int .i64 x27_2 ∧ Aside0 (impl_FirstPrefixCode.l0 kq a1 x6_2 x7_2 l0 (l0.length : Int) x27_2 = some (r1, r2)) ∧ Aside0 (kq ≤ kj2) ∧ Aside0 (Kd.R Kd.string 9 w' w.heap.size (fun _ => True) v6 x6_2) ∧ Aside0 (Below w.heap.size w w'))
        case atStart => exact ⟨(y315), (0), (0), (by first | rfl | (simp; done) | (simp [*]; done) | (simp only [IntWalk.i64_left]; done) | (simp [IntWalk.i64_left]; done) | (simp [*, IntWalk.i64_left]; done)), (by first | rfl | (simp; done) | (simp [*]; done) | (simp only [IntWalk.i64_left]; done) | (simp [IntWalk.i64_left]; done) | (simp [*, IntWalk.i64_left]; done)), H', ⟨Nat.le_refl _⟩, ⟨by (with_reducible repeat (first | apply Kd.R_alloc | apply Kd.R_drewN | apply Kd.R_drew)); exact HO317.out⟩, ⟨by repeat (first | (with_reducible first | exact HB.out | apply below_alloc | apply pw_below_drewN | apply below_drew1) | exact HB.out)⟩⟩
        case round =>
          clear H'
          try clear c2
          try clear p2
          try clear c3
          try clear c5
          try clear c7
          try clear c9
          try clear p2
          obtain ⟨x6_2, x7_2, x27_2, rfl, rfl, HA, HK2, HO_6, HB⟩ := hrel
          cases gk with
          | zero => exact absurd HA.out (by simp [impl_FirstPrefixCode.l0])
          | succ k2 =>
            have H := HA.out
            clear HA
            simp only [impl_FirstPrefixCode.l0] at H
            by_cases c12 : x27_2 < (l0.length : Int)
            · rw [if_pos c12] at H
              have c12b0 : decide (x27_2 < (l0.length : Int)) = true := decide_eq_true c12
              clear c12
              by_cases c13 : 0 ≤ x27_2
              · rw [if_pos c13] at H
                have c13b0 : decide (0 ≤ x27_2) = true := decide_eq_true c13
                clear c13
                by_cases c14 : x27_2 < (l0.length : Int)
                · rw [if_pos c14] at H
                  have c14b0 : decide (x27_2 < (l0.length : Int)) = true := decide_eq_true c14
                  clear c14
                  replace H := Option.bind_eq_some_iff.mp H
                  obtain ⟨t319, A150, H⟩ := H
                  replace H : (if t319 = 0 then (none) else ((impl_wordAt.f k2 (wrap64 (Int.tdiv x7_2 t319)) (rd l0 x27_2) a1).bind fun t320 => (if x6_2.length < 8796093022208 then ((impl_power.f k2 a1 (wrap64 (8 - (rd l0 x27_2)))).bind fun t324 => (impl_FirstPrefixCode.l0 k2 a1 (x6_2 ++ [t320]) (wrap64 (x7_2 + t324)) l0 (l0.length : Int) (wrap64 (x27_2 + 1)))) else (none)))) = some (r1, r2) := H
                  have A15 := Aside0.mk A150
                  clear A150
                  by_cases c16 : t319 = 0
                  · rw [if_pos c16] at H
                    exact absurd H (by simp)
                  · rw [if_neg c16] at H
                    have c16b0 : (t319 == 0) = false := beq_eq_false_iff_ne.mpr c16
                    have c16b1 : (t319 != 0) = true := bne_iff_ne.mpr c16
                    replace H := Option.bind_eq_some_iff.mp H
                    obtain ⟨t320, A170, H⟩ := H
                    replace H : (if x6_2.length < 8796093022208 then ((impl_power.f k2 a1 (wrap64 (8 - (rd l0 x27_2)))).bind fun t324 => (impl_FirstPrefixCode.l0 k2 a1 (x6_2 ++ [t320]) (wrap64 (x7_2 + t324)) l0 (l0.length : Int) (wrap64 (x27_2 + 1)))) else (none)) = some (r1, r2) := H
                    have A17 := Aside0.mk A170
                    clear A170
                    by_cases c18 : x6_2.length < 8796093022208
                    · rw [if_pos c18] at H
                      have LMc18 := Aside0.mk c18
                      clear c18
                      obtain ⟨y321, hy321⟩ : ∃ y_ : List ByteArray, y_ = (x6_2 ++ [t320]) := ⟨_, rfl⟩
                      replace H : ((impl_power.f k2 a1 (wrap64 (8 - (rd l0 x27_2)))).bind fun t324 => (impl_FirstPrefixCode.l0 k2 a1 y321 (wrap64 (x7_2 + t324)) l0 (l0.length : Int) (wrap64 (x27_2 + 1)))) = some (r1, r2) := by first | (rw [hy321]; with_reducible exact H) | (have H2_ := (Option.bind_some _ _).symm.trans H; rw [hy321]; with_reducible exact H2_) | (have H2_ := (Option.bind_some _ _).symm.trans H; with_reducible exact H2_) | with_reducible exact H | (rw [hy321]; exact H) | exact H
                      have Ny321 := Aside0.mk hy321
                      clear hy321
                      replace H := Option.bind_eq_some_iff.mp H
                      obtain ⟨t324, A190, H⟩ := H
                      replace H : (impl_FirstPrefixCode.l0 k2 a1 y321 (wrap64 (x7_2 + t324)) l0 (l0.length : Int) (wrap64 (x27_2 + 1))) = some (r1, r2) := H
                      have A19 := Aside0.mk A190
                      clear A190
                      have H' := Aside0.mk H
                      clear H
                      have p318 : 0 ≤ (x27_2 : Int) := of_decide_eq_true (by first | (with_reducible assumption) | assumption)
                      have q318 : x27_2 < (l0.length : Int) := of_decide_eq_true (by first | (with_reducible assumption) | assumption)
                      obtain ⟨ad318, e318, hx318_0⟩ := Kd.at_int HR0.out x27_2 p318 q318
                      cases e318
                      (try replace hx318_0 := (HB.out.cell (World.block_lt_of_cell? w _ hx318_0)).trans hx318_0)
                      replace p318 := eq_true p318
                      replace q318 := eq_true q318
                      go_wp2_with (first | ((with_reducible refine gate_callee (f := 57) rfl ?_); refine goesL_ (some 36) rfl rfl Tryz.func57 (by kernel_rfl) rfl #[.int .i64 a1, .int .i64 (wrap64 (8 - (rd l0 x27_2)))] rfl (by (try simp only [List.map_toArray, List.map_cons, List.map_nil]); first | done | rfl | (simp only [List.length_drop, List.length_take]; rfl)) ?_; (with_reducible refine (impl_power.calls k2 a1 (wrap64 (8 - (rd l0 x27_2))) t319 _ A15.out).mono ?_); rintro e w' ⟨rfl, ⟨nd, rfl⟩⟩; refine ⟨_, rfl, ?_⟩) | ((with_reducible refine gate_callee (f := 66) rfl ?_); refine goesL_ (some 40) rfl rfl Tryz.func66 (by kernel_rfl) rfl #[.int .i64 (wrap64 (Int.tdiv x7_2 t319)), .int .i64 (rd l0 x27_2), .int .i64 a1] rfl (by (try simp only [List.map_toArray, List.map_cons, List.map_nil]); first | done | rfl | (simp only [List.length_drop, List.length_take]; rfl)) ?_; (with_reducible refine (impl_wordAt.calls k2 (wrap64 (Int.tdiv x7_2 t319)) (rd l0 x27_2) a1 t320 _ A17.out).mono ?_); rintro e w20 ⟨rfl, hb⟩; refine ⟨_, rfl, ?_⟩; have n0_ := Aside0.mk (Kd.R_below (by (with_reducible repeat (first | apply Kd.R_alloc | apply Kd.R_drewN | apply Kd.R_drew)); exact HO_6.out) hb); have n1_ := Aside0.mk (below_step (by repeat (first | (with_reducible first | exact HB.out | apply below_alloc | apply pw_below_drewN | apply below_drew1) | exact HB.out)) hb); clear HO_6; clear HB; have HO_6 := n0_; have HB := n1_; clear n0_ n1_; (try clear hb); (try clear hb2); (try clear hk); (try clear hi)) | ((with_reducible refine gate_builtin (b := .append) (xs := #[.tmp 31, .tmp 41]) rfl ?_); at_builtin; refine Kd.R_append Kd.string (w0 := w) w.heap.size rfl (.tmp 31) (.tmp 41) 35 9 (.string ⟨#[]⟩) 16 rfl Tryz.underlying35 info9 rfl (by decide) (by omega) u6 x6_2 t320 [.string t320] (fun _ => True) (fun _ => False) rfl rfl ?aP (fun _ hk => hk.elim) ?aF ?aO ?aB ?aS ?aL ?_; (case aP => exact rfl); (case aB => exact (by repeat (first | (with_reducible first | exact HB.out | apply below_alloc | apply pw_below_drewN | apply below_drew1) | exact HB.out))); (case aF => exact (fun _ _ => trivial)); (case aO => exact (by (with_reducible repeat (first | apply Kd.R_alloc | apply Kd.R_drewN | apply Kd.R_drew)); exact HO_6.out)); (case aS => exact (below_size (by repeat (first | (with_reducible first | exact HB.out | apply below_alloc | apply pw_below_drewN | apply below_drew1) | exact HB.out)))); (case aL => have := LMc18.out; omega); intro v322 w21 ho hb hg hat; rw [← Ny321.out] at ho; have n0_ := Aside0.mk (hb); have n1_ := Aside0.mk (ho); clear HB; clear HO_6; have HB := n0_; have HO323 := n1_; clear n0_ n1_; clear ho hb hg hat) | ((with_reducible refine gate_callee (f := 57) rfl ?_); refine goesL_ (some 47) rfl rfl Tryz.func57 (by kernel_rfl) rfl #[.int .i64 a1, .int .i64 (wrap64 (8 - (rd l0 x27_2)))] rfl (by (try simp only [List.map_toArray, List.map_cons, List.map_nil]); first | done | rfl | (simp only [List.length_drop, List.length_take]; rfl)) ?_; (with_reducible refine (impl_power.calls k2 a1 (wrap64 (8 - (rd l0 x27_2))) t324 _ A19.out).mono ?_); rintro e w' ⟨rfl, ⟨nd, rfl⟩⟩; refine ⟨_, rfl, ?_⟩))
                      go_roundg k2
                      case measure => have := HJ2.out; have := HK2.out; omega
                      case rel => exact ⟨(y321), (wrap64 (x7_2 + t324)), (wrap64 (x27_2 + 1)), (by first | rfl | (simp; done) | (simp [*]; done) | (simp only [IntWalk.i64_left]; done) | (simp [IntWalk.i64_left]; done) | (simp [*, IntWalk.i64_left]; done)), (by first | rfl | (simp; done) | (simp [*]; done) | (simp only [IntWalk.i64_left]; done) | (simp [IntWalk.i64_left]; done) | (simp [*, IntWalk.i64_left]; done)), H', ⟨by have := HJ2.out; have := HK2.out; omega⟩, ⟨by (with_reducible repeat (first | apply Kd.R_alloc | apply Kd.R_drewN | apply Kd.R_drew)); exact HO323.out⟩, ⟨by repeat (first | (with_reducible first | exact HB.out | apply below_alloc | apply pw_below_drewN | apply below_drew1) | exact HB.out)⟩⟩
                    · rw [if_neg c18] at H
                      exact absurd H (by simp)
                · rw [if_neg c14] at H
                  exact absurd H (by simp)
              · rw [if_neg c13] at H
                exact absurd H (by simp)
            · rw [if_neg c12] at H
              have c12b0 : decide (x27_2 < (l0.length : Int)) = false := decide_eq_false c12
              clear c12
              simp only [Option.some.injEq, Prod.mk.injEq] at H
              obtain ⟨rfl, rfl⟩ := H
              go_wp2
              go_ret2
              exact ⟨_, by first | rfl | (simp [errW_none, errW_some] <;> rfl) | (simp [*, errW_none, errW_some] <;> rfl), by (with_reducible repeat (first | apply Kd.R_alloc | apply Kd.R_drewN | apply Kd.R_drew)); exact HO_6.out, by repeat (first | (with_reducible first | exact HB.out | apply below_alloc | apply pw_below_drewN | apply below_drew1) | exact HB.out)⟩
open Go.Proofs.YtcdmmpbcjcajlaaGreat.Hand
def impl_WordsFor.fill (words : List ByteArray) : List Nat → Nat → List ByteArray → List ByteArray
  | [], _, out => out
  | i :: is, k, out => impl_WordsFor.fill words is (k + 1) (out.set i (words.getD k ByteArray.empty))
theorem wf_end {w W W' : World} {g : Nat} (hb : Below w.heap.size w W) (hg : W.grownBy W' (some g)) (hM : w.heap.size ≤ g) : Below w.heap.size w W' :=
  ⟨hg.os.trans hb.os, hg.tape.trans hb.tape, hg.output.trans hb.output, Nat.le_trans hb.size hg.size, fun k hk => (hg.block k (Nat.lt_of_lt_of_le hk hb.size) (fun e => by injection e with e; omega)).trans (hb.block k hk)⟩
def impl_WordsFor.places (l : List Int) (n : Nat) : List Nat := (stableP l (allP n)).toList.map fun i => i.val
def impl_WordsFor.f (k : Nat) (l0 : List Int) (a1 : Int) : Option (List ByteArray × Bool) := (impl_areDeep.f k l0).bind fun b1 => if b1 = true then ((slices_Max_int_int.f k l0).bind fun mx => if mx > 8 then some ([], false) else ((impl_areLetters.f a1).bind fun b2 => if b2 = true then (if 0 < l0.length ∧ l0.length ≤ 12 then ((impl_FirstPrefixCode.f k (sortI l0) a1).bind fun c => if c.2 = true then (if l0.length ≤ c.1.length then some (impl_WordsFor.fill c.1 (impl_WordsFor.places l0 (l0.length - 1)) 0 (List.replicate l0.length ByteArray.empty), true) else none) else some ([], false)) else none) else some ([], false))) else some ([], false)
theorem impl_WordsFor.mono : ∀ a0 a1 k, LeO (impl_WordsFor.f k a0 a1) (impl_WordsFor.f (k + 1) a0 a1) := fun _ _ k => by
  unfold impl_WordsFor.f
  exact LeO.bind (impl_areDeep.mono _ _) fun _ => LeO.ite (LeO.bind (slices_Max_int_int.mono _ _) fun _ => LeO.ite (LeO.refl _) (LeO.bind (LeO.refl _) fun _ => LeO.ite (LeO.ite (LeO.bind (impl_FirstPrefixCode.mono _ _ _) fun _ => LeO.refl _) (LeO.refl _)) (LeO.refl _))) (LeO.refl _)
set_option maxHeartbeats 1000000 in
set_option maxRecDepth 100000 in
theorem impl_WordsFor.calls (k : Nat) (A0 : Option Addr) (c0 : Nat) (l0 : List Int) (a1 : Int) (r1 : List ByteArray) (r2 : Bool) (w : World) (hr0 : Kd.C (Kd.int .i64) w A0 l0.length l0) (hc0 : l0.length ≤ c0) (h : impl_WordsFor.f k l0 a1 = some (r1, r2)) :
    Calls Tryz.prog 15 #[.slice A0 l0.length c0, .int .i64 a1] w fun e w' => ∃ v0_ : Value, e = .returned (.tuple #[v0_, .bool r2]) ∧ Kd.R Kd.string 9 w' w.heap.size (fun _ => True) v0_ r1 ∧ Below w.heap.size w w' := by
  have HR0 := Aside0.mk hr0
  have HC0 := Aside0.mk hc0
  have HB1 := Aside0.mk (show Below w.heap.size w (w.alloc (.cells #[.slice A0 l0.length c0] 24)) from below_alloc (Below.refl _ _) _)
  have hbox : ∀ W, Below (w.alloc (.cells #[.slice A0 l0.length c0] 24)).heap.size (w.alloc (.cells #[.slice A0 l0.length c0] 24)) W → W.cell? ⟨w.heap.size, 0, none⟩ = some (.slice A0 l0.length c0) := fun W hb => (hb.cell (p := ⟨w.heap.size, 0, none⟩) (by simp)).trans (by go_simp)
  unfold impl_WordsFor.f at h
  replace h := Option.bind_eq_some_iff.mp h
  obtain ⟨b1, A1, h⟩ := h
  replace A1 := Aside0.mk A1
  have hdeep := fun W hC => impl_areDeep.calls k A0 c0 l0 b1 W hC HC0.out A1.out
  clear hr0 hc0
  cases b1 with
  | false =>
    obtain ⟨rfl, rfl⟩ : [] = r1 ∧ false = r2 := by simpa using h
    clear h hbox
    go_enter Tryz.func15, Tryz.ntmps15
    go_wp2_with (go_at_call 35; (with_reducible refine (hdeep _ (Kd.C_below HR0.out HB1.out)).mono ?_); rintro e w7 ⟨rfl, ⟨nd, rfl⟩⟩)
    go_ret2
    exact ⟨_, rfl, Kd.R_nil Kd.string _ _ _ _, pw_below_drewN HB1.out _⟩
  | true =>
    rw [if_pos rfl] at h
    replace h := Option.bind_eq_some_iff.mp h
    obtain ⟨mx, A2, h⟩ := h
    replace A2 := Aside0.mk A2
    have hmax := fun W hC => slices_Max_int_int.calls k A0 c0 l0 mx W hC HC0.out A2.out
    by_cases d1 : mx > 8
    · rw [if_pos d1] at h
      obtain ⟨rfl, rfl⟩ : [] = r1 ∧ false = r2 := by simpa using h
      have d1b : decide (8 < mx) = true := decide_eq_true d1
      have hbox1 := fun m => hbox _ (pw_below_drewN (Below.refl _ _) m)
      clear h d1 hbox
      go_enter Tryz.func15, Tryz.ntmps15
      go_wp2_with (first
        | (go_at_call 35; (with_reducible refine (hdeep _ (Kd.C_below HR0.out HB1.out)).mono ?_); rintro e w7 ⟨rfl, ⟨nd, rfl⟩⟩; have hb1 := hbox1 nd)
        | (go_at_call 38; (with_reducible refine (hmax _ (Kd.C_below HR0.out (pw_below_drewN HB1.out _))).mono ?_); rintro e w8 ⟨rfl, hb8⟩; have HB8 := Aside0.mk (below_step (pw_below_drewN HB1.out _) hb8); clear hb8))
      go_ret2
      exact ⟨_, rfl, Kd.R_nil Kd.string _ _ _ _, HB8.out⟩
    · rw [if_neg d1] at h
      have d1b : decide (8 < mx) = false := decide_eq_false (by omega)
      replace h := Option.bind_eq_some_iff.mp h
      obtain ⟨b2, A3, h⟩ := h
      replace A3 := Aside0.mk A3
      have hlet := fun W => impl_areLetters.calls a1 b2 W A3.out
      have hbox1 := fun m => hbox _ (pw_below_drewN (Below.refl _ _) m)
      have HBOX := Aside0.mk hbox
      clear d1 hbox
      cases b2 with
      | false =>
        obtain ⟨rfl, rfl⟩ : [] = r1 ∧ false = r2 := by simpa using h
        clear h
        go_enter Tryz.func15, Tryz.ntmps15
        go_wp2_with (first
          | (go_at_call 35; (with_reducible refine (hdeep _ (Kd.C_below HR0.out HB1.out)).mono ?_); rintro e w7 ⟨rfl, ⟨nd, rfl⟩⟩; have hb1 := hbox1 nd)
          | (go_at_call 38; (with_reducible refine (hmax _ (Kd.C_below HR0.out (pw_below_drewN HB1.out _))).mono ?_); rintro e w8 ⟨rfl, hb8⟩; have HB8 := Aside0.mk (below_step (pw_below_drewN HB1.out _) hb8); clear hb8)
          | (go_at_call 28; (with_reducible refine (hlet _).mono ?_); rintro e w7 ⟨rfl, ⟨nd2, rfl⟩⟩))
        go_ret2
        exact ⟨_, rfl, Kd.R_nil Kd.string _ _ _ _, pw_below_drewN HB8.out _⟩
      | true =>
        rw [if_pos rfl] at h
        split at h
        case isFalse => cases h
        rename_i hlen
        have HLEN := Aside0.mk hlen
        replace h := Option.bind_eq_some_iff.mp h
        obtain ⟨⟨ws, b3⟩, A4, h⟩ := h
        replace A4 := Aside0.mk A4
        have hV := fun W => values_callsI A0 l0.length c0 W
        have hfp := fun W g cap cur b (hR : RowAt W b g 0 cap cur (sortI l0)) => impl_FirstPrefixCode.calls k (some ⟨g, 0, none⟩) cap (sortI l0) a1 ws b3 W hR.reads hR.len A4.out
        rw [sortI_length] at hfp
        have H := Aside0.mk h
        clear h hlen
        go_enter Tryz.func15, Tryz.ntmps15
        go_upto_region 3 with (first
          | (go_at_call 35; (with_reducible refine (hdeep _ (Kd.C_below HR0.out HB1.out)).mono ?_); rintro e w7 ⟨rfl, ⟨nd, rfl⟩⟩; have hb1 := hbox1 nd)
          | (go_at_call 38; (with_reducible refine (hmax _ (Kd.C_below HR0.out (pw_below_drewN HB1.out _))).mono ?_); rintro e w8 ⟨rfl, hb8⟩; have HB8 := Aside0.mk (below_step (pw_below_drewN (Below.refl _ _) _) hb8); clear hb8)
          | (go_at_call 28; (with_reducible refine (hlet _).mono ?_); rintro e w7 ⟨rfl, ⟨nd2, rfl⟩⟩))
        generalize hw3 : World.drewN _ nd2 = W3
        have HB3 := Aside0.mk (show Below (w.alloc (.cells #[.slice A0 l0.length c0] 24)).heap.size (w.alloc (.cells #[.slice A0 l0.length c0] 24)) W3 from by rw [← hw3]; exact pw_below_drewN HB8.out _)
        clear hw3 hbox1 hdeep hmax hlet
        have hcl := HBOX.out W3 HB3.out
        have HBW := Aside0.mk (below_step HB1.out HB3.out)
        have hS := sorted_values' A0 c0 l0 W3 (Kd.C_below HR0.out HBW.out) (by have := HLEN.out; omega) (by have := HLEN.out; omega)
        go_upto_region 4 with (first
          | (go_at_call 41; (with_reducible refine (hV _).mono ?_); rintro e w' ⟨rfl, rfl⟩)
          | (go_at_call 40; (with_reducible refine hS.mono ?_); rintro e w4 ⟨hb, g, cap, cur, rfl, hR, hz⟩; have HB4 := Aside0.mk hb; have HR4 := Aside0.mk hR; clear hb hR hz)
          | (go_at_call 39; (with_reducible refine (hfp _ _ _ _ _ HR4.out).mono ?_); rintro e w5 ⟨vw, rfl, hw, hb⟩; obtain ⟨Aw, cw, rfl⟩ := Kd.R_slice hw; have HW5 := Aside0.mk hw; have HB5 := Aside0.mk (below_step HB4.out hb); clear hw hb))
        cases b3 with
        | false =>
          obtain ⟨rfl, rfl⟩ : [] = r1 ∧ false = r2 := by simpa using H.out
          go_wp2
          go_ret2
          exact ⟨_, rfl, Kd.R_nil Kd.string _ _ _ _, below_step HBW.out HB5.out⟩
        | true =>
          have h := H.out
          rw [if_pos rfl] at h
          split at h
          case isFalse => cases h
          rename_i hws
          simp only [Option.some.injEq, Prod.mk.injEq] at h
          obtain ⟨hfin, rfl⟩ := h
          have HFIN := Aside0.mk hfin
          clear hfin
          have HWS := Aside0.mk hws
          have hcl5 : (w5.alloc (.cells #[] 3)).cell? ⟨w.heap.size, 0, none⟩ = some (.slice A0 l0.length c0) := HBOX.out _ (below_alloc (below_step HB3.out HB5.out) _)
          clear hws H hV hS hfp hcl
          go_wp2
          go_loopg [8, 39] l0.length (fun kq v8 v39 w' => ∃ (i g off cap : Nat) (cur : Array Value), v8 = .slice (some ⟨g, off, none⟩) i cap ∧ v39 = .int .i64 (i : Int) ∧ Aside0 (i ≤ l0.length ∧ kq = l0.length - i) ∧ Aside0 (RowAt w' w5.heap.size g off cap cur ((List.range i).map fun (x : Nat) => (x : Int))) ∧ Aside0 (Below w5.heap.size w5 w'))
          case atStart => exact ⟨0, w5.heap.size, 0, 0, #[], rfl, rfl, ⟨Nat.zero_le _, rfl⟩, ⟨⟨Nat.le_refl _, mr_new _ _, Nat.le_refl _, fun h => absurd h (by omega), Nat.zero_le _, fun j hj => absurd hj (by simp)⟩⟩, ⟨below_alloc (Below.refl _ _) _⟩⟩
          case round =>
            clear hcl5
            obtain ⟨i, g1, off1, cap1, cur1, rfl, rfl, HI, HR, HB⟩ := hrel
            by_cases c1 : i < l0.length
            · have c1b : decide ((i : Int) < (l0.length : Int)) = true := decide_eq_true (by omega)
              have c1n : decide (i < l0.length) = true := decide_eq_true c1
              have hi1 : (i : Int) + 1 ≤ 9223372036854775807 := by have := HLEN.out; omega
              have HI2 := Aside0.mk c1
              clear c1
              obtain ⟨xs, hxs⟩ : ∃ xs, xs = (List.range i).map fun (x : Nat) => (x : Int) := ⟨_, rfl⟩
              rw [← hxs] at HR
              have HXL := Aside0.mk (show i = xs.length from by rw [hxs]; simp)
              have HXS := Aside0.mk hxs
              clear hxs
              go_wp2_with ((with_reducible refine gate_builtin (b := .append) (xs := #[.tmp 42, .tmp 44]) rfl ?_); at_builtin; refine RowAt.append HR.out (i : Int) i HXL.out rfl (.tmp 42) (.tmp 44) rfl rfl rfl HB.out (by have := HLEN.out; have := HI.out; have := HXL.out; omega) ?_; intro g2 off2 cap2 cur2 w2 hR2 hb2 hg2 hat2 hz2; have HR2 := Aside0.mk hR2; have HB2 := Aside0.mk hb2; clear hR2 hb2 hg2 hat2 hz2)
              go_roundg (l0.length - (i + 1))
              case measure => have := HI.out; have := HI2.out; omega
              case rel => exact ⟨i + 1, g2, off2, cap2, cur2, rfl, by simp, ⟨by have := HI2.out; omega, rfl⟩, ⟨by rw [List.range_succ, List.map_append, ← HXS.out]; exact HR2.out⟩, HB2⟩
            · have c1b : decide ((i : Int) < (l0.length : Int)) = false := decide_eq_false (by omega)
              obtain rfl : i = l0.length := by have := HI.out; omega
              clear c1
              go_upto_region 12 with (fail)
              obtain ⟨m, hm⟩ : ∃ m, m = l0.length - 1 := ⟨_, rfl⟩
              have HM := Aside0.mk (show l0.length = m + 1 from by have := HLEN.out; omega)
              have HMM := Aside0.mk hm
              clear hm
              have HB15 := Aside0.mk (below_step HB3.out HB5.out)
              have HWS5 := Aside0.mk (show w.heap.size < w5.heap.size from by have := HB15.out.size; simp at this; omega)
              have HC5 := Aside0.mk (Kd.C_below HR0.out (below_step HB1.out HB15.out))
              have hst := stable_calls l0.length HM.out l0 HM.out (by have := HLEN.out; have := HM.out; omega) A0 c0 w.heap.size w5 wr HB.out HWS5.out (HBOX.out w5 HB15.out) HC5.out (allP m) (allP_size m) g1 off1 cap1 cur1 (by rw [allP_list, ← HM.out]; exact HR.out) (stableP_size l0 _)
              go_upto_region 13 with (go_at_call 42; (with_reducible refine hst.mono ?_); rintro e w7 ⟨rfl, ⟨cur7, hr7⟩, hg7⟩; have HR7 := Aside0.mk hr7; have HG7 := Aside0.mk hg7; clear hr7 hg7)
              have HB7 := Aside0.mk (wf_end HB.out HG7.out HR.out.base)
              have hcl7 := HBOX.out w7 (below_step HB15.out HB7.out)
              have hn0 : (0 : Int) ≤ (l0.length : Int) := by omega
              have hn1 : (l0.length : Int).toNat * 16 ≤ 281474976710656 := by have := HLEN.out; omega
              clear hst
              go_upto_region 14 with ((with_reducible refine gate_dst (N := 52) rfl ?_); refine Kd.R_make Kd.string _ 9 rfl (N := 52) rfl 35 _ _ rfl (l0.length : Int) rfl rfl Tryz.underlying35 (.string ⟨#[]⟩) 16 info9 rfl (by decide) (by omega) (⟨#[]⟩ : ByteArray) (ok := fun _ => True) (okp := fun _ => True) rfl (fun _ hk => hk) trivial hn0 hn1 (Below.refl _ _) (Nat.le_refl _) ?_; intro v10 w8 ho8 hb8 hg_ hnew_; have HO8 := Aside0.mk ho8; have HB8b := Aside0.mk hb8; clear ho8 hb8 hg_ hnew_)
              obtain ⟨P, hP⟩ : ∃ P, P = impl_WordsFor.places l0 m := ⟨_, rfl⟩
              have HPR := Aside0.mk (show RowAt w7 w5.heap.size g1 off1 cap1 cur7 (P.map fun (x : Nat) => (x : Int)) from by
                have := HR7.out
                rw [hP]
                unfold impl_WordsFor.places
                rw [List.map_map]
                exact this)
              have HPL := Aside0.mk (show P.length = l0.length from by rw [hP]; unfold impl_WordsFor.places; rw [List.length_map, Array.length_toList, stableP_size, allP_size, ← HM.out])
              have HPB := Aside0.mk (show ∀ x ∈ P, x < l0.length from by
                rw [hP]
                unfold impl_WordsFor.places
                intro x hx
                obtain ⟨y, -, rfl⟩ := List.mem_map.1 hx
                have := y.isLt
                have := HM.out
                omega)
              have HF0 := Aside0.mk (show impl_WordsFor.fill ws P 0 (List.replicate l0.length ByteArray.empty) = r1 from by rw [hP, HMM.out]; exact HFIN.out)
              clear hP hcl7 hn0 hn1 c1b HFIN
              rw [Int.toNat_natCast] at HO8
              go_wp2
              go_loopg [55] l0.length (fun kq v55 w' => ∃ (j : Nat) (xs : List ByteArray), v55 = .int .i64 (j : Int) ∧ Aside0 (j ≤ l0.length ∧ kq = l0.length - j) ∧ Aside0 (xs.length = l0.length) ∧ Aside0 (impl_WordsFor.fill ws (P.drop j) j xs = r1) ∧ Aside0 (Kd.R Kd.string 9 w' w7.heap.size (fun _ => True) v10 xs) ∧ Aside0 (Below w7.heap.size w7 w'))
              case atStart => exact ⟨0, _, rfl, ⟨Nat.zero_le _, rfl⟩, ⟨by rw [List.length_replicate]⟩, HF0, HO8, HB8b⟩
              case round =>
                clear HO8 HB8b HF0
                obtain ⟨j, xs, rfl, HI9, HXL, HF, HO, HB9⟩ := hrel
                by_cases d2 : j < l0.length
                · have d2b : decide ((j : Int) < (l0.length : Int)) = true := decide_eq_true (by omega)
                  have d2n : decide (j < l0.length) = true := decide_eq_true d2
                  have HJ := Aside0.mk d2
                  have hjp : j < P.length := by have := HPL.out; omega
                  have hdrop : P.drop j = P.getD j 0 :: P.drop (j + 1) := by rw [List.drop_eq_getElem_cons hjp]; simp [List.getD_eq_getElem?_getD, hjp]
                  obtain ⟨x, hxx⟩ : ∃ x, x = P.getD j 0 := ⟨_, rfl⟩
                  have hxl : x < l0.length := by rw [hxx]; exact HPB.out _ (by rw [List.getD_eq_getElem?_getD, List.getElem?_eq_getElem hjp]; exact List.getElem_mem hjp)
                  have HDROP := Aside0.mk hdrop
                  clear hdrop
                  have HXN := Aside0.mk hxl
                  have hplace : wr.cell? ⟨g1, off1 + j, none⟩ = some (.int .i64 (x : Int)) := by
                    have := (HPR.out.move (HB9.out.block _ HPR.out.lt)).cell j (by rw [List.length_map]; exact hjp)
                    rw [this, hxx]
                    simp [List.getD_eq_getElem?_getD, hjp]
                  have HXX := Aside0.mk hxx
                  obtain ⟨adw, eadw, hword⟩ := Kd.at_string (Kd.C_below (Kd.R_reads' HW5.out).2.2 (below_step HB7.out HB9.out)) (j : Int) (by omega) (by have := HWS.out; omega)
                  rw [Int.toNat_natCast] at hword
                  subst eadw
                  obtain ⟨go9, co9, eo9, gb9, gl9, cl9, HG9⟩ := Kd.R_form HO.out (by have := HXL.out; omega)
                  subst eo9
                  have GB9 := Aside0.mk gb9
                  clear gb9 gl9 HG9 hjp hxx
                  have p33 : 0 ≤ (x : Int) := by omega
                  have q33 : (x : Int) < (xs.length : Int) := by have := HXL.out; omega
                  obtain ⟨hxo, hfo⟩ := Kd.R_celln (⟨#[]⟩ : ByteArray) HO.out (x : Int) p33 q33
                  have HP9 := Kd.R_putg HO.out (x : Int) (rdOf ByteArray.empty ws (j : Int))
                  rw [Int.toNat_natCast] at HP9
                  (try rw [Int.toNat_natCast] at hxo)
                  (try rw [Int.toNat_natCast] at hfo)
                  have q44 : (j : Int) < (ws.length : Int) := by have := HWS.out; omega
                  have q45 : j < ws.length := by omega
                  have q46 : x < xs.length := by omega
                  have q47 : j < l0.length := HJ.out
                  clear d2 hxl
                  go_wp2_with ((with_reducible refine gate_store (t := 9) (p := 66) rfl ?_); refine store_event (t := 9) (p := 66) (v := ?vo_w36) (w1 := (wr.setCell ⟨go9, x, none⟩ (.string (rdOf ByteArray.empty ws (j : Int))))) ?hg ?ho ?hn ?hr ?_; (case ho => rfl); (case hg => rfl); (case hn => rfl); (case hr => first | (go_simp; done) | (go_simp; rfl)); intro w36 hw; have HO36 := Aside0.mk (by rw [hw]; exact HP9.1 : Kd.R Kd.string 9 w36 w7.heap.size (fun _ => True) (.slice (some ⟨go9, 0, none⟩) xs.length co9) (xs.set x (rdOf ByteArray.empty ws (j : Int)))); have HB36 := Aside0.mk (by rw [hw]; exact below_set HB9.out GB9.out : Below w7.heap.size w7 w36); clear HP9 hw)
                  go_roundg (l0.length - (j + 1))
                  case measure => have := HI9.out; have := HJ.out; omega
                  case rel => exact ⟨j + 1, xs.set x (rdOf ByteArray.empty ws (j : Int)), (by first | (simp; done) | exact congrArg (Value.int .i64) (by have := HLEN.out; have := HJ.out; unfold wrap64; omega)), ⟨by have := HJ.out; omega, rfl⟩, ⟨by rw [List.length_set]; exact HXL.out⟩, ⟨by have := HF.out; rw [HDROP.out, ← HXX.out, impl_WordsFor.fill] at this; unfold rdOf; rw [Int.toNat_natCast]; exact this⟩, HO36, HB36⟩
                · have d2b : decide ((j : Int) < (l0.length : Int)) = false := decide_eq_false (by omega)
                  have d2n : decide (j < l0.length) = false := decide_eq_false d2
                  have hfin : xs = r1 := by have := HF.out; rw [List.drop_of_length_le (by have := HPL.out; omega)] at this; exact this
                  subst hfin
                  clear d2
                  go_wp2
                  go_ret2
                  exact ⟨_, rfl, Kd.R_lower HO.out (by have := HB7.out.size; have := HWS5.out; omega), below_step (below_step (below_step HB1.out HB15.out) HB7.out) HB9.out⟩
def laws_yBegins.f (a0 : ByteArray) (a1 : ByteArray) : Option (Bool) := if (a1.size : Int) ≤ (a0.size : Int) then (if 0 ≤ (a1.size : Int) then (some ((a0.extract 0 a1.size).toList == a1.toList)) else (none)) else (some false)
set_option maxHeartbeats 8000000 in
set_option maxRecDepth 100000 in
theorem laws_yBegins.calls (a0 : ByteArray) (a1 : ByteArray) (r : Bool) (w : World) (h : laws_yBegins.f a0 a1 = some r) :
    Calls Tryz.prog 44 #[.string a0, .string a1] w fun e w' => e = .returned (.bool r) ∧ Drawn0 w w' := by
  have H : (if (a1.size : Int) ≤ (a0.size : Int) then (if 0 ≤ (a1.size : Int) then (some ((a0.extract 0 a1.size).toList == a1.toList)) else (none)) else (some false)) = some r := h
  clear h
  by_cases c3 : (a1.size : Int) ≤ (a0.size : Int)
  · rw [if_pos c3] at H
    have c3b0 : decide ((a1.size : Int) ≤ (a0.size : Int)) = true := decide_eq_true c3
    have c3b1 : decide (a1.size ≤ a0.size) = true := decide_eq_true (Int.ofNat_le.mp c3)
    clear c3
    by_cases c4 : 0 ≤ (a1.size : Int)
    · rw [if_pos c4] at H
      have c4b0 := eq_true c4
      have c4b1 : decide (0 ≤ (a1.size : Int)) = true := decide_eq_true c4
      clear c4
      have c5b0 := eq_true (of_decide_eq_true (by first | (with_reducible assumption) | assumption) : (a1.size : Int) ≤ (a0.size : Int))
      obtain rfl := Option.some.inj H
      go_enter Tryz.func44, Tryz.ntmps44
      go_wp2
      go_ret
      exact ⟨by first | rfl | (simp; done) | (simp [*]; done) | (simp only [IntWalk.i64_left]; done) | (simp [IntWalk.i64_left]; done) | (simp [*, IntWalk.i64_left]; done), by repeat (first | exact Drawn0.refl _ | apply Drawn0.step)⟩
    · rw [if_neg c4] at H
      exact absurd H (by simp)
  · rw [if_neg c3] at H
    have c3b0 : decide ((a1.size : Int) ≤ (a0.size : Int)) = false := decide_eq_false c3
    have c3b1 : decide (a1.size ≤ a0.size) = false := decide_eq_false (fun h => c3 (Int.ofNat_le.mpr h))
    clear c3
    obtain rfl := Option.some.inj H
    go_enter Tryz.func44, Tryz.ntmps44
    go_wp2
    go_ret
    exact ⟨by first | rfl | (simp; done) | (simp [*]; done) | (simp only [IntWalk.i64_left]; done) | (simp [IntWalk.i64_left]; done) | (simp [*, IntWalk.i64_left]; done), by repeat (first | exact Drawn0.refl _ | apply Drawn0.step)⟩
end Go.Proofs.YtcdmmpbcjcajlaaGreat.XFnBestIsMerged
