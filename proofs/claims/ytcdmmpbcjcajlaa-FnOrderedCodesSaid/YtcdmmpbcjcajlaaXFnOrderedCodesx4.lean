-- by wip/shake.py
import Derived.Test.YtcdmmpbcjcajlaaXFnOrderedCodesx0
import Derived.Test.YtcdmmpbcjcajlaaXFnOrderedCodesx2
import Derived.Test.YtcdmmpbcjcajlaaXFnOrderedCodesx3
namespace Go.Proofs.Ytcdmmpbcjcajlaa.XFnOrderedCodes
set_option maxHeartbeats 8000000
set_option maxRecDepth 100000
open Go.RowKit Go.Proofs.Ytcdmmpbcjcajlaa.Hand Go.Proofs.YtcdmmpbcjcajlaaW.PrintWords Go.Proofs.YtcdmmpbcjcajlaaW.PrintLast Go.Proofs.YtcdmmpbcjcajlaaW.PrintMore
attribute [local go_sem] max2_int min2_int max_two min_two max_three min_three max_four min_four   -- for this text's walks alone
set_option linter.unusedVariables false
set_option linter.unusedSimpArgs false
def impl_orderedCost.f (k : Nat) (l0 : List Int) : Option (Int) := if (l0.length : Int) = 1 then (if 0 < (l0.length : Int) then (some (rd l0 0)) else (none)) else ((impl_joined.f k l0).bind fun t189 => (some t189))
theorem impl_orderedCost.mono : ∀ a0 k, LeO (impl_orderedCost.f k a0) (impl_orderedCost.f (k + 1) a0) := by
 intro a0 k
 unfold impl_orderedCost.f
 repeat' first
   | (with_reducible first | exact impl_joined.mono _ _ | exact LeO.refl _ | exact LeO.none _ | refine LeO.ite ?_ ?_ | refine LeO.bind ?_ (fun _ => ?_))
   | exact impl_joined.mono _ _
   | exact LeO.none _
   | refine LeO.ite ?_ ?_
   | refine LeO.bind ?_ (fun _ => ?_)
theorem impl_orderedCost.calls (k : Nat) (A0 : Option Addr) (c0 : Nat) (l0 : List Int) (r : Int) (w : World) (hr0 : Kd.C (Kd.int .i64) w A0 l0.length l0) (hc0 : l0.length ≤ c0) (h : impl_orderedCost.f k l0 = some r) :
  Calls Try.prog 26 #[.slice A0 l0.length c0] w fun e w' => e = .returned (.int .i64 r) ∧ Below w.heap.size w w' := by
 have HR0 := Aside0.mk hr0
 have HC0 := Aside0.mk hc0
 clear hr0 hc0
 have HB := Aside0.mk (Below.refl w.heap.size w)
 have H : (if (l0.length : Int) = 1 then (if 0 < (l0.length : Int) then (some (rd l0 0)) else (none)) else ((impl_joined.f k l0).bind fun t189 => (some t189))) = some r := h
 clear h
 by_cases c2 : (l0.length : Int) = 1
 ·rw [if_pos c2] at H
  have c2b0 : ((l0.length : Int) == 1) = true := beq_iff_eq.mpr c2
  have c2b1 : ((l0.length : Int) != 1) = false := bne_eq_false_iff_eq.mpr c2
  clear c2
  by_cases c3 : 0 < (l0.length : Int)
  ·rw [if_pos c3] at H
   have c3b0 : decide (0 < (l0.length : Int)) = true := decide_eq_true c3
   have c3b1 : decide (0 < l0.length) = true := decide_eq_true (by omega)
   clear c3
   obtain rfl := Option.some.inj H
   have p188 : 0 ≤ (0 : Int) := (by omega)
   have q188 : 0 < (l0.length : Int) := zD
   obtain ⟨ad188, e188, hx188_0⟩ := Kd.at_int HR0.out 0 p188 q188
   cases e188
   have qi188 : (0 < l0.length) = True := eq_true (by omega)
   (try rw [show ((0 : Int)).toNat = 0 from rfl] at hx188_0)
   (try rw [Addr.add_zero'] at hx188_0)
   replace p188 := eq_true p188
   replace q188 := eq_true q188
   go_enter Try.func26, Try.ntmps26
   go_wp2
   go_ret
   exact ⟨zF, zB HB.out⟩
  ·rw [if_neg c3] at H
   exact absurd H (by simp)
 ·rw [if_neg c2] at H
  have c2b0 : ((l0.length : Int) == 1) = false := beq_eq_false_iff_ne.mpr c2
  have c2b1 : ((l0.length : Int) != 1) = true := bne_iff_ne.mpr c2
  replace H := Option.bind_eq_some_iff.mp H
  obtain ⟨t189, A40, H⟩ := H
  (try dsimp only at H)
  have A4 := Aside0.mk A40
  clear A40
  obtain rfl := Option.some.inj H
  go_enter Try.func26, Try.ntmps26
  go_wp2_with (first | ((with_reducible refine gate_callee (f := 38) rfl ?_); refine goesL_ (some 10) rfl rfl Try.func38 (by kernel_rfl) rfl #[.slice A0 l0.length c0] rfl (by (try simp only [List.map_toArray, List.map_cons, List.map_nil]); first | done | rfl | (simp only [List.length_drop, List.length_take]; rfl)) ?_; (with_reducible refine (impl_joined.calls k _ _ l0 t189 _ ?side1 ?side2 A4.out).mono ?_); (case side1 => exact zC HR0.out); (case side2 => exact HC0.out); rintro e w5 ⟨rfl, hb⟩; refine ⟨_, rfl, ?_⟩; have n0_ := Aside0.mk (below_step (zB HB.out) hb); clear HB; have HB := n0_; clear n0_; (try clear hb); (try clear hb2); (try clear hk); (try clear hi)))
  go_ret
  exact ⟨zF, zB HB.out⟩
def impl_power.l0 : Nat → Int → Int → Int → Int → Option (Int)
 | 0, _, _, _, _ => none
 | k + 1, x0, x5, x6, x7 => if x7 < x6 then (impl_power.l0 k x0 (wrap64 (x5 * x0)) x6 (wrap64 (x7 + 1))) else (some x5)
def impl_power.f (k : Nat) (a0 : Int) (a1 : Int) : Option (Int) := impl_power.l0 k a0 1 a1 0
theorem impl_power.mono_l : ∀ k, (∀ y0 y1 y2 y3, LeO (impl_power.l0 k y0 y1 y2 y3) (impl_power.l0 (k + 1) y0 y1 y2 y3))
 | 0 => fun _ _ _ _ r h => by simp [impl_power.l0] at h
 | k + 1 => by
  have ih0 := impl_power.mono_l k
  ·intro y0 y1 y2 y3
   unfold impl_power.l0
   repeat' first
   | (with_reducible first | exact ih0 _ _ _ _ | exact LeO.refl _ | exact LeO.none _ | refine LeO.ite ?_ ?_ | refine LeO.bind ?_ (fun _ => ?_))
   | exact ih0 _ _ _ _
   | exact LeO.none _
   | refine LeO.ite ?_ ?_
   | refine LeO.bind ?_ (fun _ => ?_)
theorem impl_power.mono : ∀ a0 a1 k, LeO (impl_power.f k a0 a1) (impl_power.f (k + 1) a0 a1) := by
 intro a0 a1 k
 have ih0 := impl_power.mono_l k
 unfold impl_power.f
 repeat' first
   | (with_reducible first | exact ih0 _ _ _ _ | exact LeO.refl _ | exact LeO.none _ | refine LeO.ite ?_ ?_ | refine LeO.bind ?_ (fun _ => ?_))
   | exact ih0 _ _ _ _
   | exact LeO.none _
   | refine LeO.ite ?_ ?_
   | refine LeO.bind ?_ (fun _ => ?_)
theorem impl_power.calls (k : Nat) (a0 : Int) (a1 : Int) (r : Int) (w : World) (h : impl_power.f k a0 a1 = some r) :
  Calls Try.prog 50 #[.int .i64 a0, .int .i64 a1] w fun e w' => e = .returned (.int .i64 r) ∧ Drawn0 w w' := by
 have H : (impl_power.l0 k a0 1 a1 0) = some r := h
 clear h
 have H' := Aside0.mk H
 clear H
 go_enter Try.func50, Try.ntmps50
 go_wp2
 go_loopg [5, 7] k (fun kq v5 v7 w' => ∃ (x5_1 : Int) (x7_1 : Int), v5 = .int .i64 x5_1 ∧ v7 = .int .i64 x7_1 ∧ Aside0 (impl_power.l0 kq a0 x5_1 a1 x7_1 = some r) ∧ Aside0 (kq ≤ k) ∧ Drawn0 w w')
 case atStart => exact ⟨(1), (0), zE1, zE1, H', ⟨Nat.le_refl _⟩, by repeat (first | exact Drawn0.refl _ | apply Drawn0.step)⟩
 case round =>
  clear H'
  try clear p2
  obtain ⟨x5_1, x7_1, rfl, rfl, HA, HK1, ⟨m1, rfl⟩⟩ := hrel
  cases gk with
  | zero => exact absurd HA.out (by simp [impl_power.l0])
  | succ k1 =>
   have H := HA.out
   clear HA
   simp only [impl_power.l0] at H
   by_cases c3 : x7_1 < a1
   ·rw [if_pos c3] at H
    have c3b0 : decide (x7_1 < a1) = true := decide_eq_true c3
    clear c3
    have H' := Aside0.mk H
    clear H
    go_wp2
    go_roundg k1
    case measure => have := HK1.out; omega
    case rel => exact ⟨(wrap64 (x5_1 * a0)), (wrap64 (x7_1 + 1)), zE1, zE1, H', ⟨by have := HK1.out; omega⟩, by repeat (first | exact Drawn0.refl _ | apply Drawn0.step)⟩
   ·rw [if_neg c3] at H
    have c3b0 : decide (x7_1 < a1) = false := decide_eq_false c3
    clear c3
    obtain rfl := Option.some.inj H
    go_wp2
    go_ret
    exact ⟨by first | rfl | (simp; done) | (simp [*]; done) | (simp only [IntWalk.i64_left]; done) | (simp [IntWalk.i64_left]; done) | (simp [*, IntWalk.i64_left]; done), by repeat (first | exact Drawn0.refl _ | apply Drawn0.step)⟩
def impl_orderedWords.l0 : Nat → List Int → Int → List Int → Int → Int → Option (List Int × Bool)
 | 0, _, _, _, _, _ => none
 | k + 1, x4, x5, x11, x12, x13 => if x13 < x12 then (if 0 ≤ x13 then (if x13 < (x11.length : Int) then ((impl_power.f k 2 (wrap64 (11 - (rd x11 x13)))).bind fun t194 => (if t194 = 0 then (none) else ((impl_power.f k 2 11).bind fun t195 => (if (wrap64 ((wrap64 ((wrap64 (Int.tdiv (wrap64 ((wrap64 (x5 + t194)) - 1)) t194)) + 1)) * t194)) > t195 then (some (([] : List Int), false)) else (if x4.length < 17592186044416 then (impl_orderedWords.l0 k (x4 ++ [wrap64 (Int.tdiv (wrap64 ((wrap64 (x5 + t194)) - 1)) t194)]) (wrap64 ((wrap64 ((wrap64 (Int.tdiv (wrap64 ((wrap64 (x5 + t194)) - 1)) t194)) + 1)) * t194)) x11 x12 (wrap64 (x13 + 1))) else (none)))))) else (none)) else (none)) else (some (x4, true))
def impl_orderedWords.f (k : Nat) (l0 : List Int) : Option (List Int × Bool) := impl_orderedWords.l0 k (([] : List Int)) 0 l0 (l0.length : Int) 0
theorem impl_orderedWords.mono_l : ∀ k, (∀ y0 y1 y2 y3 y4, LeO (impl_orderedWords.l0 k y0 y1 y2 y3 y4) (impl_orderedWords.l0 (k + 1) y0 y1 y2 y3 y4))
 | 0 => fun _ _ _ _ _ r h => by simp [impl_orderedWords.l0] at h
 | k + 1 => by
  have ih0 := impl_orderedWords.mono_l k
  ·intro y0 y1 y2 y3 y4
   unfold impl_orderedWords.l0
   repeat' first
   | (with_reducible first | exact ih0 _ _ _ _ _ | exact impl_power.mono _ _ _ | exact LeO.refl _ | exact LeO.none _ | refine LeO.ite ?_ ?_ | refine LeO.bind ?_ (fun _ => ?_))
   | exact ih0 _ _ _ _ _
   | exact impl_power.mono _ _ _
   | exact LeO.none _
   | refine LeO.ite ?_ ?_
   | refine LeO.bind ?_ (fun _ => ?_)
theorem impl_orderedWords.mono : ∀ a0 k, LeO (impl_orderedWords.f k a0) (impl_orderedWords.f (k + 1) a0) := by
 intro a0 k
 have ih0 := impl_orderedWords.mono_l k
 unfold impl_orderedWords.f
 repeat' first
   | (with_reducible first | exact ih0 _ _ _ _ _ | exact impl_power.mono _ _ _ | exact LeO.refl _ | exact LeO.none _ | refine LeO.ite ?_ ?_ | refine LeO.bind ?_ (fun _ => ?_))
   | exact ih0 _ _ _ _ _
   | exact impl_power.mono _ _ _
   | exact LeO.none _
   | refine LeO.ite ?_ ?_
   | refine LeO.bind ?_ (fun _ => ?_)
theorem impl_orderedWords.calls (k : Nat) (A0 : Option Addr) (c0 : Nat) (l0 : List Int) (r1 : List Int) (r2 : Bool) (w : World) (hr0 : Kd.C (Kd.int .i64) w A0 l0.length l0) (hc0 : l0.length ≤ c0) (h : impl_orderedWords.f k l0 = some (r1, r2)) :
  Calls Try.prog 28 #[.slice A0 l0.length c0] w fun e w' => ∃ v0_ : Value, e = .returned (.tuple #[v0_, .bool r2]) ∧ Kd.R (Kd.int .i64) 3 w' w.heap.size (fun _ => True) v0_ r1 ∧ Below w.heap.size w w' := by
 have HR0 := Aside0.mk hr0
 have HC0 := Aside0.mk hc0
 clear hr0 hc0
 have HB := Aside0.mk (Below.refl w.heap.size w)
 have H : (impl_orderedWords.l0 k (([] : List Int)) 0 l0 (l0.length : Int) 0) = some (r1, r2) := h
 clear h
 obtain ⟨y190, hy190⟩ : ∃ y_ : List Int, y_ = (([] : List Int)) := ⟨_, rfl⟩
 replace H : (impl_orderedWords.l0 k y190 0 l0 (l0.length : Int) 0) = some (r1, r2) := by first | (rw [hy190]; with_reducible exact H) | (have H2_ := (Option.bind_some _ _).symm.trans H; rw [hy190]; with_reducible exact H2_) | (have H2_ := (Option.bind_some _ _).symm.trans H; with_reducible exact H2_) | with_reducible exact H | (rw [hy190]; exact H) | exact H
 have Ny190 := Aside0.mk hy190
 clear hy190
 have H' := Aside0.mk H
 clear H
 go_enter Try.func28, Try.ntmps28
 go_wp2_with (first | ((with_reducible refine gate_dst (N := 10) rfl ?_); refine Kd.R_lit (Kd.int .i64) _ 3 ?hg (N := 10) ?hd (xs := ([] : List Int)) (inner := []) (ok := fun _ => True) (okp := fun _ => True) ?hr ?hp (fun _ hk => hk) trivial (Below.refl _ _) (Nat.le_refl _) (by simp) ?_; (case hd => rfl); (case hg => rfl); (case hr => first | (go_simp; done) | (go_simp; rfl)); (case hp => exact (Reps.none _ _)); intro v191 w2 ho3 hb hg_ hnew_; clear hg_ hnew_; (first | rw [← Ny190.out] at ho3 | (simp only [Int.reduceToNat] at ho3; rw [← Ny190.out] at ho3)); have n0_ := Aside0.mk (Kd.R_lower ho3 (below_size (zB HB.out))); have n1_ := Aside0.mk (below_step (zB HB.out) hb); clear HB; have HO192 := n0_; have HB := n1_; clear n0_ n1_; clear hb ho3))
 go_loopg [4, 5, 13] k (fun kq v4 v5 v13 w' => ∃ (x4_1 : List Int) (x5_1 : Int) (x13_1 : Int), v5 = .int .i64 x5_1 ∧ v13 = .int .i64 x13_1 ∧ Aside0 (impl_orderedWords.l0 kq x4_1 x5_1 l0 (l0.length : Int) x13_1 = some (r1, r2)) ∧ Aside0 (kq ≤ k) ∧ Aside0 (Kd.R (Kd.int .i64) 3 w' w.heap.size (fun _ => True) v4 x4_1) ∧ Aside0 (Below w.heap.size w w'))
 case atStart => exact ⟨(y190), (0), (0), zE1, zE1, H', ⟨Nat.le_refl _⟩, ⟨zR HO192.out⟩, ⟨zB HB.out⟩⟩
 case round =>
  clear H'
  try clear c2
  try clear p2
  obtain ⟨x4_1, x5_1, x13_1, rfl, rfl, HA, HK1, HO_4, HB⟩ := hrel
  cases gk with
  | zero => exact absurd HA.out (by simp [impl_orderedWords.l0])
  | succ k1 =>
   have H := HA.out
   clear HA
   simp only [impl_orderedWords.l0] at H
   by_cases c4 : x13_1 < (l0.length : Int)
   ·rw [if_pos c4] at H
    have c4b0 : decide (x13_1 < (l0.length : Int)) = true := decide_eq_true c4
    clear c4
    by_cases c5 : 0 ≤ x13_1
    ·rw [if_pos c5] at H
     have c5b0 : decide (0 ≤ x13_1) = true := decide_eq_true c5
     clear c5
     by_cases c6 : x13_1 < (l0.length : Int)
     ·rw [if_pos c6] at H
      have c6b0 : decide (x13_1 < (l0.length : Int)) = true := decide_eq_true c6
      clear c6
      replace H := Option.bind_eq_some_iff.mp H
      obtain ⟨t194, A70, H⟩ := H
      (try dsimp only at H)
      have A7 := Aside0.mk A70
      clear A70
      by_cases c8 : t194 = 0
      ·rw [if_pos c8] at H
       exact absurd H (by simp)
      ·rw [if_neg c8] at H
       have c8b0 : (t194 == 0) = false := beq_eq_false_iff_ne.mpr c8
       have c8b1 : (t194 != 0) = true := bne_iff_ne.mpr c8
       replace H := Option.bind_eq_some_iff.mp H
       obtain ⟨t195, A90, H⟩ := H
       (try dsimp only at H)
       have A9 := Aside0.mk A90
       clear A90
       by_cases c10 : (wrap64 ((wrap64 ((wrap64 (Int.tdiv (wrap64 ((wrap64 (x5_1 + t194)) - 1)) t194)) + 1)) * t194)) > t195
       ·rw [if_pos c10] at H
        have c10b0 : decide (t195 < (wrap64 ((wrap64 ((wrap64 (Int.tdiv (wrap64 ((wrap64 (x5_1 + t194)) - 1)) t194)) + 1)) * t194))) = true := decide_eq_true c10
        clear c10
        simp only [Option.some.injEq, Prod.mk.injEq] at H
        obtain ⟨rfl, rfl⟩ := H
        have p193 : 0 ≤ (x13_1 : Int) := zD
        have q193 : x13_1 < (l0.length : Int) := zD
        obtain ⟨ad193, e193, hx193_0⟩ := Kd.at_int HR0.out x13_1 p193 q193
        cases e193
        (try replace hx193_0 := (HB.out.cell (World.block_lt_of_cell? w _ hx193_0)).trans hx193_0)
        replace p193 := eq_true p193
        replace q193 := eq_true q193
        go_wp2_with (first | ((with_reducible refine gate_callee (f := 50) rfl ?_); refine goesL_ (some 19) rfl rfl Try.func50 (by kernel_rfl) rfl #[.int .i64 2, .int .i64 (wrap64 (11 - (rd l0 x13_1)))] rfl (by (try simp only [List.map_toArray, List.map_cons, List.map_nil]); first | done | rfl | (simp only [List.length_drop, List.length_take]; rfl)) ?_; (with_reducible refine (impl_power.calls k1 2 (wrap64 (11 - (rd l0 x13_1))) t194 _ A7.out).mono ?_); rintro e w' ⟨rfl, ⟨nd, rfl⟩⟩; refine ⟨_, rfl, ?_⟩) | ((with_reducible refine gate_callee (f := 50) rfl ?_); refine goesL_ (some 30) rfl rfl Try.func50 (by kernel_rfl) rfl #[.int .i64 2, .int .i64 11] rfl (by (try simp only [List.map_toArray, List.map_cons, List.map_nil]); first | done | rfl | (simp only [List.length_drop, List.length_take]; rfl)) ?_; (with_reducible refine (impl_power.calls k1 2 11 t195 _ A9.out).mono ?_); rintro e w' ⟨rfl, ⟨nd, rfl⟩⟩; refine ⟨_, rfl, ?_⟩))
        go_ret2
        exact ⟨_, zF, by first | exact Kd.R_nil _ _ _ _ _ | exact Kd.N_nil _ _ _ _ _ | exact Kd.V_nil _ _ _ _ _ | exact Kd.Q_nil _ _ _ _ _ | exact Kd.S_nil _ _ _ _ _, zB HB.out⟩
       ·rw [if_neg c10] at H
        have c10b0 : decide (t195 < (wrap64 ((wrap64 ((wrap64 (Int.tdiv (wrap64 ((wrap64 (x5_1 + t194)) - 1)) t194)) + 1)) * t194))) = false := decide_eq_false c10
        clear c10
        by_cases c11 : x4_1.length < 17592186044416
        ·rw [if_pos c11] at H
         have LMc11 := Aside0.mk c11
         clear c11
         obtain ⟨y196, hy196⟩ : ∃ y_ : List Int, y_ = (x4_1 ++ [wrap64 (Int.tdiv (wrap64 ((wrap64 (x5_1 + t194)) - 1)) t194)]) := ⟨_, rfl⟩
         replace H : (impl_orderedWords.l0 k1 y196 (wrap64 ((wrap64 ((wrap64 (Int.tdiv (wrap64 ((wrap64 (x5_1 + t194)) - 1)) t194)) + 1)) * t194)) l0 (l0.length : Int) (wrap64 (x13_1 + 1))) = some (r1, r2) := by first | (rw [hy196]; with_reducible exact H) | (have H2_ := (Option.bind_some _ _).symm.trans H; rw [hy196]; with_reducible exact H2_) | (have H2_ := (Option.bind_some _ _).symm.trans H; with_reducible exact H2_) | with_reducible exact H | (rw [hy196]; exact H) | exact H
         have Ny196 := Aside0.mk hy196
         clear hy196
         have H' := Aside0.mk H
         clear H
         have p193 : 0 ≤ (x13_1 : Int) := zD
         have q193 : x13_1 < (l0.length : Int) := zD
         obtain ⟨ad193, e193, hx193_0⟩ := Kd.at_int HR0.out x13_1 p193 q193
         cases e193
         (try replace hx193_0 := (HB.out.cell (World.block_lt_of_cell? w _ hx193_0)).trans hx193_0)
         replace p193 := eq_true p193
         replace q193 := eq_true q193
         go_wp2_with (first | ((with_reducible refine gate_callee (f := 50) rfl ?_); refine goesL_ (some 19) rfl rfl Try.func50 (by kernel_rfl) rfl #[.int .i64 2, .int .i64 (wrap64 (11 - (rd l0 x13_1)))] rfl (by (try simp only [List.map_toArray, List.map_cons, List.map_nil]); first | done | rfl | (simp only [List.length_drop, List.length_take]; rfl)) ?_; (with_reducible refine (impl_power.calls k1 2 (wrap64 (11 - (rd l0 x13_1))) t194 _ A7.out).mono ?_); rintro e w' ⟨rfl, ⟨nd, rfl⟩⟩; refine ⟨_, rfl, ?_⟩) | ((with_reducible refine gate_callee (f := 50) rfl ?_); refine goesL_ (some 30) rfl rfl Try.func50 (by kernel_rfl) rfl #[.int .i64 2, .int .i64 11] rfl (by (try simp only [List.map_toArray, List.map_cons, List.map_nil]); first | done | rfl | (simp only [List.length_drop, List.length_take]; rfl)) ?_; (with_reducible refine (impl_power.calls k1 2 11 t195 _ A9.out).mono ?_); rintro e w' ⟨rfl, ⟨nd, rfl⟩⟩; refine ⟨_, rfl, ?_⟩) | ((with_reducible refine gate_builtin (b := .append) (xs := #[.tmp 32, .tmp 34]) rfl ?_); at_builtin; refine Kd.R_append (Kd.int .i64) (w0 := w) w.heap.size rfl (.tmp 32) (.tmp 34) 24 3 (.int .i64 0) 8 rfl Try.underlying24 info3 rfl (by decide) (by omega) u4 x4_1 (wrap64 (Int.tdiv (wrap64 ((wrap64 (x5_1 + t194)) - 1)) t194)) [.int .i64 (wrap64 (Int.tdiv (wrap64 ((wrap64 (x5_1 + t194)) - 1)) t194))] (fun _ => True) (fun _ => False) rfl rfl ?aP (fun _ hk => hk.elim) ?aF ?aO ?aB ?aS ?aL ?_; (case aP => exact rfl); (case aB => exact (zB HB.out)); (case aF => exact (fun _ _ => trivial)); (case aO => exact (zR HO_4.out)); (case aS => exact (below_size (zB HB.out))); (case aL => have := LMc11.out; omega); intro v197 w12 ho hb hg hat; rw [← Ny196.out] at ho; have n0_ := Aside0.mk (hb); have n1_ := Aside0.mk (ho); clear HB; clear HO_4; have HB := n0_; have HO198 := n1_; clear n0_ n1_; clear ho hb hg hat))
         go_roundg k1
         case measure => have := HK1.out; omega
         case rel => exact ⟨(y196), (wrap64 ((wrap64 ((wrap64 (Int.tdiv (wrap64 ((wrap64 (x5_1 + t194)) - 1)) t194)) + 1)) * t194)), (wrap64 (x13_1 + 1)), zE1, zE1, H', ⟨by have := HK1.out; omega⟩, ⟨zR HO198.out⟩, ⟨zB HB.out⟩⟩
        ·rw [if_neg c11] at H
         exact absurd H (by simp)
     ·rw [if_neg c6] at H
      exact absurd H (by simp)
    ·rw [if_neg c5] at H
     exact absurd H (by simp)
   ·rw [if_neg c4] at H
    have c4b0 : decide (x13_1 < (l0.length : Int)) = false := decide_eq_false c4
    clear c4
    simp only [Option.some.injEq, Prod.mk.injEq] at H
    obtain ⟨rfl, rfl⟩ := H
    go_wp2
    go_ret2
    exact ⟨_, zF, zR HO_4.out, zB HB.out⟩
open Go.Proofs.Ytcdmmpbcjcajlaa.Hand
mutual
def impl_OrderedLengths.find : Nat → List Int → Int → List Int → Int → Option (Option (List Int))
 | 0, _, _, _, _ => none
 | q + 1, ws, due, done, cost => if done.length = ws.length then ((impl_orderedWords.f q done).bind fun b => some (if b.2 = true ∧ cost = due then some done else none)) else (if done.length < ws.length ∧ ws.length ≤ 1099511627776 then impl_OrderedLengths.loop q ws due done cost 1 else none)
def impl_OrderedLengths.loop : Nat → List Int → Int → List Int → Int → Nat → Option (Option (List Int))
 | 0, _, _, _, _, _ => none
 | q + 1, ws, due, done, cost, l => if l ≤ 11 then (if wrap64 (cost + wrap64 (rd ws done.length * (l : Int))) ≤ due then ((impl_orderedWords.f q (done ++ [(l : Int)])).bind fun b => if b.2 = true then ((impl_OrderedLengths.find q ws due (done ++ [(l : Int)]) (wrap64 (cost + wrap64 (rd ws done.length * (l : Int))))).bind fun r => match r with | some x => some (some x) | none => impl_OrderedLengths.loop q ws due done cost (l + 1)) else impl_OrderedLengths.loop q ws due done cost (l + 1)) else some none) else some none
end
def impl_OrderedLengths.f (k : Nat) (l0 : List Int) : Option (List Int × Bool) := (impl_isSearched.f k l0).bind fun b => if b = true then (if 0 < l0.length then ((impl_orderedCost.f k l0).bind fun due => (impl_OrderedLengths.find k l0 due [] 0).bind fun r => match r with | some x => some (x, true) | none => some ([], false)) else none) else some ([], false)
theorem impl_OrderedLengths.mono_l : ∀ k, (∀ ws due done cost, LeO (impl_OrderedLengths.find k ws due done cost) (impl_OrderedLengths.find (k + 1) ws due done cost)) ∧ (∀ ws due done cost l, LeO (impl_OrderedLengths.loop k ws due done cost l) (impl_OrderedLengths.loop (k + 1) ws due done cost l))
 | 0 => ⟨fun _ _ _ _ r h => by simp [impl_OrderedLengths.find] at h, fun _ _ _ _ _ r h => by simp [impl_OrderedLengths.loop] at h⟩
 | k + 1 => by
  obtain ⟨ih1, ih2⟩ := impl_OrderedLengths.mono_l k
  refine ⟨fun ws due done cost => ?_, fun ws due done cost l => ?_⟩
  ·unfold impl_OrderedLengths.find
   exact LeO.ite (LeO.bind (impl_orderedWords.mono _ _) fun b => LeO.refl _) (LeO.ite (ih2 _ _ _ _ _) (LeO.refl _))
  ·unfold impl_OrderedLengths.loop
   refine LeO.ite (LeO.ite (LeO.bind (impl_orderedWords.mono _ _) fun b => LeO.ite (LeO.bind (ih1 _ _ _ _) fun r => ?_) (ih2 _ _ _ _ _)) (LeO.refl _)) (LeO.refl _)
   cases r with
   | some x => exact LeO.refl _
   | none => exact ih2 _ _ _ _ _
theorem impl_OrderedLengths.mono : ∀ a0 k, LeO (impl_OrderedLengths.f k a0) (impl_OrderedLengths.f (k + 1) a0) := by
 intro a0 k
 unfold impl_OrderedLengths.f
 exact LeO.bind (impl_isSearched.mono _ _) fun b => LeO.ite (LeO.ite (LeO.bind (impl_orderedCost.mono _ _) fun due => LeO.bind ((impl_OrderedLengths.mono_l k).1 _ _ _ _) fun r => LeO.refl _) (LeO.refl _)) (LeO.refl _)
structure OlBox (w : World) (A0 : Option Addr) (c0 : Nat) (ws : List Int) (due : Int) (Bw Bd Bf : Nat) : Prop where
 hw : w.cell? ⟨Bw, 0, none⟩ = some (.slice A0 ws.length c0)
 hd : w.cell? ⟨Bd, 0, none⟩ = some (.int .i64 due)
 hf : w.cell? ⟨Bf, 0, none⟩ = some (.func (.func 27) #[] #[.pointer (some ⟨Bw, 0, none⟩), .pointer (some ⟨Bd, 0, none⟩), .pointer (some ⟨Bf, 0, none⟩)])
 lw : Bw < w.heap.size
 ld : Bd < w.heap.size
 lf : Bf < w.heap.size
 row : Kd.C (Kd.int .i64) w A0 ws.length ws
theorem OlBox.below {w w' : World} {A0 : Option Addr} {c0 : Nat} {ws : List Int} {due : Int} {Bw Bd Bf : Nat} (h : OlBox w A0 c0 ws due Bw Bd Bf) (hb : Below w.heap.size w w') : OlBox w' A0 c0 ws due Bw Bd Bf :=
 ⟨(hb.cell (p := ⟨Bw, 0, none⟩) h.lw).trans h.hw, (hb.cell (p := ⟨Bd, 0, none⟩) h.ld).trans h.hd, (hb.cell (p := ⟨Bf, 0, none⟩) h.lf).trans h.hf, Nat.lt_of_lt_of_le h.lw hb.size, Nat.lt_of_lt_of_le h.ld hb.size, Nat.lt_of_lt_of_le h.lf hb.size, Kd.C_below h.row hb⟩
def OlBack (w w' : World) (base : Nat) (r : Option (List Int)) (e : Ending) : Prop := Below w.heap.size w w' ∧ ((r = none ∧ e = .returned (.slice none 0 0)) ∨ ∃ x g cap cur, r = some x ∧ e = .returned (.slice (some ⟨g, 0, none⟩) x.length cap) ∧ RowAt w' base g 0 cap cur x ∧ cap = cur.size)
theorem OlBack.nil {w w' : World} {base : Nat} {e : Ending} (h : OlBack w w' base none e) : Below w.heap.size w w' ∧ e = .returned (.slice none 0 0) := by
 obtain ⟨hb, ⟨-, he⟩ | ⟨x, g, cap, cur, h9, -⟩⟩ := h
 ·exact ⟨hb, he⟩
 ·cases h9
theorem OlBack.got {w w' : World} {base : Nat} {y : List Int} {e : Ending} (h : OlBack w w' base (some y) e) : Below w.heap.size w w' ∧ ∃ g cap cur, e = .returned (.slice (some ⟨g, 0, none⟩) y.length cap) ∧ RowAt w' base g 0 cap cur y ∧ cap = cur.size := by
 obtain ⟨hb, ⟨h9, -⟩ | ⟨x, g, cap, cur, h9, he, hr⟩⟩ := h
 ·cases h9
 ·obtain rfl := Option.some.inj h9
  exact ⟨hb, g, cap, cur, he, hr⟩
theorem impl_OrderedLengths.find_calls : ∀ (q : Nat) (A0 : Option Addr) (c0 : Nat) (ws : List Int) (due : Int) (Bw Bd Bf : Nat) (done : List Int) (cost : Int) (r : Option (List Int)) (w : World) (base g cap n : Nat) (cur : Array Value),
  OlBox w A0 c0 ws due Bw Bd Bf → RowAt w base g 0 cap cur done → cap = cur.size → base ≤ w.heap.size → n = done.length → impl_OrderedLengths.find q ws due done cost = some r →
  Calls Try.prog 27 #[.slice (some ⟨g, 0, none⟩) n cap, .int .i64 cost, .pointer (some ⟨Bw, 0, none⟩), .pointer (some ⟨Bd, 0, none⟩), .pointer (some ⟨Bf, 0, none⟩)] w fun e w' => OlBack w w' base r e := by
 intro q
 induction q using Nat.strongRecOn with
 | _ q ih =>
  intro A0 c0 ws due Bw Bd Bf done cost r w base g cap n cur hbox hrow hcs hbase hn h
  have HCS := Aside0.mk hcs
  have BOX := Aside0.mk hbox
  have ROW := Aside0.mk hrow
  have HBASE := Aside0.mk hbase
  have HN := Aside0.mk hn
  have hcw := hbox.hw
  have hcd := hbox.hd
  have hcf := hbox.hf
  cases q with
  | zero => exact absurd h (by simp [impl_OrderedLengths.find])
  | succ q =>
   simp only [impl_OrderedLengths.find] at h
   by_cases c1 : done.length = ws.length
   ·rw [if_pos c1] at h
    obtain ⟨b, hb, hr⟩ := Option.bind_eq_some_iff.mp h
    have HR := Aside0.mk (Option.some.inj hr)
    have A1 := Aside0.mk hb
    have c1a : ((n : Int) = (ws.length : Int)) = True := eq_true (by omega)
    have c1b : decide ((n : Int) = (ws.length : Int)) = true := decide_eq_true (by omega)
    have c1c : ((n : Int) == (ws.length : Int)) = true := beq_iff_eq.2 (by omega)
    have hcall := fun W hC => impl_orderedWords.calls q (some ⟨g, 0, none⟩) cap done b.1 b.2 W hC ROW.out.len A1.out
    rw [← hn] at hcall
    clear hbox hrow hcs hbase hn h hb hr c1
    cases hb2 : b.2 with
    | false =>
     rw [hb2] at hcall
     have hr : none = r := by have := HR.out; rw [hb2] at this; simpa using this
     subst hr
     clear hb2
     go_enter Try.func27, Try.ntmps27
     go_wp2_with (go_at_call 28; (with_reducible refine (hcall _ (by rw [HN.out]; exact ROW.out.reads)).mono ?_); rintro e w7 ⟨v7, rfl, ho7, hb7⟩; have HB7 := Aside0.mk hb7; have hcd7 := (BOX.out.below hb7).hd; clear ho7 hb7)
     go_ret
     exact ⟨HB7.out, Or.inl ⟨rfl, rfl⟩⟩
    | true =>
     rw [hb2] at hcall
     by_cases c2 : cost = due
     ·have hr : some done = r := by have := HR.out; rw [hb2] at this; simpa [c2] using this
      subst hr
      have c2c : (cost == due) = true := beq_iff_eq.2 c2
      have C2 := Aside0.mk c2
      clear hb2 c2
      go_enter Try.func27, Try.ntmps27
      go_wp2_with (go_at_call 28; (with_reducible refine (hcall _ (by rw [HN.out]; exact ROW.out.reads)).mono ?_); rintro e w7 ⟨v7, rfl, ho7, hb7⟩; have HB7 := Aside0.mk hb7; have hcd7 := (BOX.out.below hb7).hd; clear ho7 hb7)
      go_ret
      exact ⟨HB7.out, Or.inr ⟨done, g, cap, cur, rfl, by rw [HN.out]; rfl, ROW.out.move (HB7.out.block _ ROW.out.lt), HCS.out⟩⟩
     ·have hr : none = r := by have := HR.out; rw [hb2] at this; simpa [c2] using this
      subst hr
      have c2c : (cost == due) = false := beq_eq_false_iff_ne.2 c2
      have C2 := Aside0.mk c2
      clear hb2 c2
      go_enter Try.func27, Try.ntmps27
      go_wp2_with (go_at_call 28; (with_reducible refine (hcall _ (by rw [HN.out]; exact ROW.out.reads)).mono ?_); rintro e w7 ⟨v7, rfl, ho7, hb7⟩; have HB7 := Aside0.mk hb7; have hcd7 := (BOX.out.below hb7).hd; clear ho7 hb7)
      go_ret
      exact ⟨HB7.out, Or.inl ⟨rfl, rfl⟩⟩
   ·rw [if_neg c1] at h
    split at h
    case isFalse => cases h
    rename_i hfit
    have HFIT := Aside0.mk hfit
    have H' := Aside0.mk h
    have c1a : ((n : Int) = (ws.length : Int)) = False := eq_false (by omega)
    have c1b : decide ((n : Int) = (ws.length : Int)) = false := decide_eq_false (by omega)
    have c1c : ((n : Int) == (ws.length : Int)) = false := beq_eq_false_iff_ne.2 (by omega)
    have c1d : (0 : Int) ≤ (n : Int) := by omega
    have c1e : (n : Int) < (ws.length : Int) := by omega
    obtain ⟨ad, ead, hx⟩ := Kd.at_int hbox.row (n : Int) c1d c1e
    rw [Int.toNat_natCast] at hx
    obtain ⟨x, hxx⟩ : ∃ x, x = rd ws (n : Int) := ⟨_, rfl⟩
    rw [← hxx] at hx
    have HX := Aside0.mk hxx
    subst ead
    clear hbox hrow hcs hbase hn h hfit c1 hxx
    go_enter Try.func27, Try.ntmps27
    go_wp2
    go_loopg [11] q (fun kq v11 w' => ∃ l : Nat, v11 = .int .i64 (l : Int) ∧ Aside0 (l ≤ 12) ∧ Aside0 (impl_OrderedLengths.loop kq ws due done cost l = some r) ∧ Aside0 (kq ≤ q) ∧ Aside0 (Below w.heap.size w w'))
    case atStart => exact ⟨1, rfl, ⟨by omega⟩, H', ⟨Nat.le_refl _⟩, ⟨Below.refl _ _⟩⟩
    case round =>
     clear H' hx hcw hcd hcf
     obtain ⟨l, rfl, HL, HA, HK1, HB⟩ := hrel
     cases gk with
     | zero => exact absurd HA.out (by simp [impl_OrderedLengths.loop])
     | succ k1 =>
      have H := HA.out
      clear HA
      simp only [impl_OrderedLengths.loop] at H
      rw [← HN.out, ← HX.out] at H
      have hcd := (BOX.out.below HB.out).hd
      have hcf := (BOX.out.below HB.out).hf
      by_cases d1 : l ≤ 11
      ·rw [if_pos d1] at H
       have d1a : decide ((l : Int) ≤ 11) = true := decide_eq_true (by omega)
       have d1b : decide (l ≤ 11) = true := decide_eq_true d1
       by_cases d2 : wrap64 (cost + wrap64 (x * (l : Int))) ≤ due
       ·rw [if_pos d2] at H
        have d2a : decide (wrap64 (cost + wrap64 (x * (l : Int))) ≤ due) = true := decide_eq_true d2
        clear d2
        obtain ⟨b, hb, hr⟩ := Option.bind_eq_some_iff.mp H
        have A1 := Aside0.mk hb
        have HR := Aside0.mk hr
        clear H hb hr
        have HC0 := Aside0.mk (show done.length ≤ 1099511627776 from by have := HFIT.out; omega)
        have hl1 : (done ++ [(l : Int)]).length = n + 1 := by rw [List.length_append, HN.out]; rfl
        have HL1 := Aside0.mk hl1
        have hcall := fun A cap1 W hC hle => impl_orderedWords.calls k1 A cap1 (done ++ [(l : Int)]) b.1 b.2 W hC hle A1.out
        rw [hl1] at hcall
        clear hl1
        have e4 : (l : Int) + 1 ≤ 9223372036854775807 := by have := HL.out; omega
        have D1 := Aside0.mk d1
        clear d1
        cases hb2 : b.2 with
        | false =>
         rw [hb2] at hcall
         have H7 := Aside0.mk (show impl_OrderedLengths.loop k1 ws due done cost (l + 1) = some r from by have := HR.out; rw [hb2] at this; simpa using this)
         clear hb2
         go_wp2_with (first
          | (go_at_call 29; (with_reducible refine (clone_calls (ROW.out.move (HB.out.block _ ROW.out.lt)) n HN.out HC0.out).mono ?_); rintro e w7 ⟨g7, cap7, cur7, rfl, hr7, hb7, hz7⟩; have HZ7 := Aside0.mk hz7; have HR7 := Aside0.mk hr7; have HB7 := Aside0.mk hb7; clear hr7 hb7 hz7)
          | ((with_reducible refine gate_builtin (b := .append) (xs := #[.tmp 52, .tmp 54]) rfl ?_); at_builtin; refine RowAt.append HR7.out (l : Int) n HN.out rfl (.tmp 52) (.tmp 54) rfl rfl rfl HB7.out (by have := HC0.out; omega) ?_; intro g1 off1 cap1 cur1 w1 hR1 hb1 hg1 hat1 hz1; obtain ⟨rfl, hz2⟩ := hz1 ⟨rfl, HZ7.out⟩; have HZ1 := Aside0.mk hz2; have HR1 := Aside0.mk hR1; have HB1 := Aside0.mk hb1; clear hR1 hb1 hg1 hat1 hz1 hz2)
          | (go_at_call 28; (with_reducible refine (hcall _ _ _ (by rw [← HL1.out]; exact HR1.out.reads) (by rw [← HL1.out]; exact HR1.out.len)).mono ?_); rintro e w9 ⟨v9, rfl, ho9, hb9⟩; have HB9 := Aside0.mk (below_step HB1.out hb9); clear ho9 hb9))
         go_roundg k1
         case measure => omega
         case rel => exact ⟨l + 1, by simp, ⟨by have := D1.out; omega⟩, H7, ⟨by have := HK1.out; omega⟩, ⟨below_step HB.out HB9.out⟩⟩
        | true =>
         rw [hb2] at hcall
         have h8 := HR.out
         rw [hb2, if_pos rfl] at h8
         obtain ⟨r1, hf1, hr1⟩ := Option.bind_eq_some_iff.mp h8
         have A2 := Aside0.mk hf1
         have q22 : ∀ (W : World) (a : Option Addr) (n c : Nat), (binOp .neq 24 (.slice a n c) (.slice none 0 0)).run Try.prog W = .ok (.bool (!a.isNone)) W := fun W a n c => Go.run_neq_slice_nil W _ _ a n c Try.underlying24
         have hfind := fun W g1 cap1 cur1 (hbx : OlBox W (some ad) c0 ws due Bw Bd Bf) (hR : RowAt W wr.heap.size g1 0 cap1 cur1 (done ++ [(l : Int)])) hz hbs => ih k1 (by have := HK1.out; omega) (some ad) c0 ws due Bw Bd Bf (done ++ [(l : Int)]) (wrap64 (cost + wrap64 (x * (l : Int)))) r1 W wr.heap.size g1 cap1 (n + 1) cur1 hbx hR hz hbs HL1.out.symm A2.out
         clear hb2 h8 hf1
         cases r1 with
         | none =>
          have H7 := Aside0.mk (show impl_OrderedLengths.loop k1 ws due done cost (l + 1) = some r from hr1)
          clear hr1
          go_wp2_with (first
           | (go_at_call 29; (with_reducible refine (clone_calls (ROW.out.move (HB.out.block _ ROW.out.lt)) n HN.out HC0.out).mono ?_); rintro e w7 ⟨g7, cap7, cur7, rfl, hr7, hb7, hz7⟩; have HZ7 := Aside0.mk hz7; have HR7 := Aside0.mk hr7; have HB7 := Aside0.mk hb7; clear hr7 hb7 hz7)
           | ((with_reducible refine gate_builtin (b := .append) (xs := #[.tmp 52, .tmp 54]) rfl ?_); at_builtin; refine RowAt.append HR7.out (l : Int) n HN.out rfl (.tmp 52) (.tmp 54) rfl rfl rfl HB7.out (by have := HC0.out; omega) ?_; intro g1 off1 cap1 cur1 w1 hR1 hb1 hg1 hat1 hz1; obtain ⟨rfl, hz2⟩ := hz1 ⟨rfl, HZ7.out⟩; have HZ1 := Aside0.mk hz2; have HR1 := Aside0.mk hR1; have HB1 := Aside0.mk hb1; clear hR1 hb1 hg1 hat1 hz1 hz2)
           | (go_at_call 28; (with_reducible refine (hcall _ _ _ (by rw [← HL1.out]; exact HR1.out.reads) (by rw [← HL1.out]; exact HR1.out.len)).mono ?_); rintro e w9 ⟨v9, rfl, ho9, hb9⟩; have HB9 := Aside0.mk (below_step HB1.out hb9); have HR9 := Aside0.mk (HR1.out.move (hb9.block _ HR1.out.lt)); have hcf9 := (BOX.out.below (below_step HB.out HB9.out)).hf; clear ho9 hb9)
           | (go_at_call 27; (with_reducible refine (hfind _ _ _ _ (BOX.out.below (below_step HB.out HB9.out)) HR9.out HZ1.out HB9.out.size).mono ?_); intro e w10 h10; obtain ⟨hb10, rfl⟩ := OlBack.nil h10; have HB10 := Aside0.mk (below_step HB9.out hb10); clear h10 hb10))
          go_roundg k1
          case measure => omega
          case rel => exact ⟨l + 1, by simp, ⟨by have := D1.out; omega⟩, H7, ⟨by have := HK1.out; omega⟩, ⟨below_step HB.out HB10.out⟩⟩
         | some y =>
          obtain rfl : some y = r := by simpa using hr1
          clear hr1
          go_wp2_with (first
           | (go_at_call 29; (with_reducible refine (clone_calls (ROW.out.move (HB.out.block _ ROW.out.lt)) n HN.out HC0.out).mono ?_); rintro e w7 ⟨g7, cap7, cur7, rfl, hr7, hb7, hz7⟩; have HZ7 := Aside0.mk hz7; have HR7 := Aside0.mk hr7; have HB7 := Aside0.mk hb7; clear hr7 hb7 hz7)
           | ((with_reducible refine gate_builtin (b := .append) (xs := #[.tmp 52, .tmp 54]) rfl ?_); at_builtin; refine RowAt.append HR7.out (l : Int) n HN.out rfl (.tmp 52) (.tmp 54) rfl rfl rfl HB7.out (by have := HC0.out; omega) ?_; intro g1 off1 cap1 cur1 w1 hR1 hb1 hg1 hat1 hz1; obtain ⟨rfl, hz2⟩ := hz1 ⟨rfl, HZ7.out⟩; have HZ1 := Aside0.mk hz2; have HR1 := Aside0.mk hR1; have HB1 := Aside0.mk hb1; clear hR1 hb1 hg1 hat1 hz1 hz2)
           | (go_at_call 28; (with_reducible refine (hcall _ _ _ (by rw [← HL1.out]; exact HR1.out.reads) (by rw [← HL1.out]; exact HR1.out.len)).mono ?_); rintro e w9 ⟨v9, rfl, ho9, hb9⟩; have HB9 := Aside0.mk (below_step HB1.out hb9); have HR9 := Aside0.mk (HR1.out.move (hb9.block _ HR1.out.lt)); have hcf9 := (BOX.out.below (below_step HB.out HB9.out)).hf; clear ho9 hb9)
           | (go_at_call 27; (with_reducible refine (hfind _ _ _ _ (BOX.out.below (below_step HB.out HB9.out)) HR9.out HZ1.out HB9.out.size).mono ?_); intro e w10 h10; obtain ⟨hb10, g9, cap9, cur9, rfl, hr9, hz9⟩ := OlBack.got h10; have HZ9 := Aside0.mk hz9; have HB10 := Aside0.mk (below_step HB9.out hb10); have HR10 := Aside0.mk hr9; clear h10 hb10 hr9 hz9))
          go_ret
          have hbb : base ≤ wr.heap.size := Nat.le_trans HBASE.out HB.out.size
          exact ⟨below_step HB.out HB10.out, Or.inr ⟨y, g9, cap9, cur9, rfl, rfl, ⟨Nat.le_trans hbb HR10.out.base, HR10.out.blk, HR10.out.len, HR10.out.fits, HR10.out.small, HR10.out.cells⟩, HZ9.out⟩⟩
       ·rw [if_neg d2] at H
        have d2a : decide (wrap64 (cost + wrap64 (x * (l : Int))) ≤ due) = false := decide_eq_false d2
        obtain rfl := Option.some.inj H
        clear H d1 d2
        go_wp2
        go_ret
        exact ⟨HB.out, Or.inl ⟨rfl, rfl⟩⟩
      ·rw [if_neg d1] at H
       have d1a : decide ((l : Int) ≤ 11) = false := decide_eq_false (by omega)
       have d1b : decide (l ≤ 11) = false := decide_eq_false d1
       obtain rfl := Option.some.inj H
       clear H d1
       go_wp2
       go_ret
       exact ⟨HB.out, Or.inl ⟨rfl, rfl⟩⟩
theorem RowAt_R {w : World} {base g cap : Nat} {cur : Array Value} {xs : List Int} (h : RowAt w base g 0 cap cur xs) (hz : cap = cur.size) : Kd.R (Kd.int .i64) 3 w base (fun _ => True) (.slice (some ⟨g, 0, none⟩) xs.length cap) xs := by
 refine Kd.R_of_own ⟨by simp [encs], .inr ⟨g, cap, cur, rfl, h.base, h.blk, h.len, h.small, by omega, ?_⟩⟩ (fun _ _ => trivial)
 apply List.ext_getElem?
 intro j
 rw [Nat.mul_one]
 by_cases hj : j < xs.length
 ·rw [List.getElem?_take_of_lt hj]
  have := h.cells j hj
  rw [Nat.zero_add] at this
  rw [Array.getElem?_toList, this]
  simp [encs, List.getD_eq_getElem?_getD, hj]
 ·rw [List.getElem?_eq_none (by rw [List.length_take]; omega), List.getElem?_eq_none (by simp [encs]; omega)]
theorem OlBox.start {w w8 : World} {A0 : Option Addr} {c0 : Nat} {l0 : List Int} {due : Int} (T : TypeId) (hy : w8.cell? ⟨w.heap.size, 0, none⟩ = some (.slice A0 l0.length c0)) (hl : w.heap.size < w8.heap.size) (hrow : Kd.C (Kd.int .i64) w8 A0 l0.length l0) :
  OlBox (((w8.alloc (.cells #[.int .i64 due] 3)).alloc (.cells #[.func (.func 27) #[] #[.pointer (some ⟨w.heap.size, 0, none⟩), .pointer (some ⟨w8.heap.size, 0, none⟩), .pointer (some ⟨w8.heap.size + 1, 0, none⟩)]] T)).alloc (.cells #[] 3)) A0 c0 l0 due w.heap.size w8.heap.size (w8.heap.size + 1) := by
 have s1 : ∀ (W : World) (o : Obj), (W.alloc o).heap.size = W.heap.size + 1 := fun W o => by simp
 have n1 : ∀ (W : World) (o : Obj) (i : Nat), i = W.heap.size → (W.alloc o).heap[i]? = some o := fun W o i e => by rw [e]; unfold World.alloc; simp
 have o1 : ∀ (W : World) (o : Obj) (i : Nat), i < W.heap.size → (W.alloc o).heap[i]? = W.heap[i]? := fun W o i h => Below.heap_alloc W o i h
 have hb : ∀ o1 o2 o3 : Obj, Below w8.heap.size w8 (((w8.alloc o1).alloc o2).alloc o3) := fun o1 o2 o3 => below_alloc (below_alloc (below_alloc (Below.refl _ _) _) _) _
 refine ⟨((hb _ _ _).cell (p := ⟨w.heap.size, 0, none⟩) hl).trans hy, ?_, ?_, by simp only [s1]; omega, by simp only [s1]; omega, by simp only [s1]; omega, Kd.C_below hrow (hb _ _ _)⟩
 ·refine cell_of_one (t := 3) ?_
  rw [o1 _ _ _ (by simp only [s1]; omega), o1 _ _ _ (by simp only [s1]; omega), n1 _ _ _ rfl]
 ·refine cell_of_one (t := T) ?_
  rw [o1 _ _ _ (by simp only [s1]; omega), n1 _ _ _ (by simp only [s1])]
theorem OlRow.start (w w8 : World) (o1 o2 : Obj) (h : w.heap.size ≤ w8.heap.size) : RowAt (((w8.alloc o1).alloc o2).alloc (.cells #[] 3)) w.heap.size (w8.heap.size + 1 + 1) 0 0 #[] [] := by
 refine ⟨by omega, ?_, by simp, fun h => by omega, by omega, fun j hj => by simp at hj⟩
 have n1 : ∀ (W : World) (o : Obj) (i : Nat), i = W.heap.size → (W.alloc o).heap[i]? = some o := fun W o i e => by rw [e]; unfold World.alloc; simp
 exact n1 _ _ _ (by simp)
theorem impl_OrderedLengths.calls (k : Nat) (A0 : Option Addr) (c0 : Nat) (l0 : List Int) (r1 : List Int) (r2 : Bool) (w : World) (hr0 : Kd.C (Kd.int .i64) w A0 l0.length l0) (hc0 : l0.length ≤ c0) (h : impl_OrderedLengths.f k l0 = some (r1, r2)) :
  Calls Try.prog 6 #[.slice A0 l0.length c0] w fun e w' => ∃ v0_ : Value, e = .returned (.tuple #[v0_, .bool r2]) ∧ Kd.R (Kd.int .i64) 3 w' w.heap.size (fun _ => True) v0_ r1 ∧ Below w.heap.size w w' := by
 have HR0 := Aside0.mk hr0
 have HC0 := Aside0.mk hc0
 have q22 : ∀ (W : World) (a : Option Addr) (n c : Nat), (binOp .neq 24 (.slice a n c) (.slice none 0 0)).run Try.prog W = .ok (.bool (!a.isNone)) W := fun W a n c => Go.run_neq_slice_nil W _ _ a n c Try.underlying24
 unfold impl_OrderedLengths.f at h
 obtain ⟨b, A10, h1⟩ := Option.bind_eq_some_iff.mp h
 have A1 := Aside0.mk A10
 clear hr0 hc0 h A10
 cases b with
 | false =>
  obtain ⟨rfl, rfl⟩ : [] = r1 ∧ false = r2 := by simpa using h1
  clear h1
  go_enter Try.func6, Try.ntmps6
  go_wp2_with (go_at_call 25; (with_reducible refine (impl_isSearched.calls k _ _ l0 false _ (Kd.C_below HR0.out (below_alloc (Below.refl _ _) _)) HC0.out A1.out).mono ?_); rintro e w7 ⟨rfl, hb⟩; have HB := Aside0.mk hb; clear hb)
  go_ret2
  exact ⟨_, rfl, Kd.R_nil (Kd.int .i64) _ _ _ _, below_step (below_alloc (Below.refl _ _) _) (Drawn0.below HB.out)⟩
 | true =>
  rw [if_pos rfl] at h1
  split at h1
  case isFalse => cases h1
  rename_i hpos
  obtain ⟨due, A20, h2⟩ := Option.bind_eq_some_iff.mp h1
  obtain ⟨rr, A30, h3⟩ := Option.bind_eq_some_iff.mp h2
  have A2 := Aside0.mk A20
  have A3 := Aside0.mk A30
  have HPOS := Aside0.mk hpos
  have H3 := Aside0.mk h3
  have hb1 := below_alloc (Below.refl w.heap.size w) (.cells #[.slice A0 l0.length c0] 24)
  have HB1 := Aside0.mk hb1
  clear h1 h2 A20 A30 hpos h3 hb1
  go_enter Try.func6, Try.ntmps6
  go_wp2_with (first
   | (go_at_call 25; (with_reducible refine (impl_isSearched.calls k _ _ l0 true _ (Kd.C_below HR0.out HB1.out) HC0.out A1.out).mono ?_); rintro e w7 ⟨rfl, hb⟩; have HB7 := Aside0.mk (below_step HB1.out (Drawn0.below hb)); have hx7 := (Drawn0.below hb).cell (p := ⟨w.heap.size, 0, none⟩) (by simp); have hy7 : w7.cell? ⟨w.heap.size, 0, none⟩ = some (.slice A0 l0.length c0) := hx7.trans (by go_simp); have HL7 := Aside0.mk (show w.heap.size < w7.heap.size from by have := (Drawn0.below hb).size; simp at this; omega); clear hb hx7)
   | (go_at_call 26; (with_reducible refine (impl_orderedCost.calls k _ _ l0 due _ (Kd.C_below HR0.out HB7.out) HC0.out A2.out).mono ?_); rintro e w8 ⟨rfl, hb⟩; have HB8 := Aside0.mk (below_step HB7.out hb); have hy8 : w8.cell? ⟨w.heap.size, 0, none⟩ = some (.slice A0 l0.length c0) := (hb.cell (p := ⟨w.heap.size, 0, none⟩) HL7.out).trans hy7; have HL8 := Aside0.mk (Nat.lt_of_lt_of_le HL7.out hb.size); clear hb hy7))
  have hbase : w.heap.size ≤ w8.heap.size := Nat.le_of_lt HL8.out
  have HBX := Aside0.mk (OlBox.start (due := due) 49 hy8 HL8.out (Kd.C_below HR0.out HB8.out))
  have h3 := H3.out
  clear hy8 H3
  cases rr with
  | none =>
   obtain ⟨rfl, rfl⟩ : [] = r1 ∧ false = r2 := by simpa using h3
   clear h3
   go_wp2_with (go_at_call 27; (with_reducible refine (impl_OrderedLengths.find_calls k A0 c0 l0 due _ _ _ [] 0 none _ w.heap.size _ 0 0 #[] HBX.out (OlRow.start w w8 _ _ hbase) rfl (by simp; omega) rfl A3.out).mono ?_); intro e w10 h10; obtain ⟨hb10, rfl⟩ := OlBack.nil h10; have HB10 := Aside0.mk (below_step (below_alloc (below_alloc (below_alloc HB8.out _) _) _) hb10); clear h10 hb10)
   go_ret2
   exact ⟨_, rfl, Kd.R_nil (Kd.int .i64) _ _ _ _, HB10.out⟩
  | some y =>
   obtain ⟨rfl, rfl⟩ : y = r1 ∧ true = r2 := by simpa using h3
   clear h3
   go_wp2_with (go_at_call 27; (with_reducible refine (impl_OrderedLengths.find_calls k A0 c0 l0 due _ _ _ [] 0 (some y) _ w.heap.size _ 0 0 #[] HBX.out (OlRow.start w w8 _ _ hbase) rfl (by simp; omega) rfl A3.out).mono ?_); intro e w10 h10; obtain ⟨hb10, g9, cap9, cur9, rfl, hr9, hz9⟩ := OlBack.got h10; have HZ9 := Aside0.mk hz9; have HB10 := Aside0.mk (below_step (below_alloc (below_alloc (below_alloc HB8.out _) _) _) hb10); have HR9 := Aside0.mk hr9; clear h10 hb10 hr9 hz9)
   go_ret2
   exact ⟨_, rfl, RowAt_R HR9.out HZ9.out, HB10.out⟩
def spec_l1In.f (a0 : Int) (a1 : Int) (a2 : Int) : Option (Bool) := if a0 ≥ a1 then (some (decide (a0 ≤ a2))) else (some false)
theorem spec_l1In.calls (a0 : Int) (a1 : Int) (a2 : Int) (r : Bool) (w : World) (h : spec_l1In.f a0 a1 a2 = some r) :
  Calls Try.prog 48 #[.int .i64 a0, .int .i64 a1, .int .i64 a2] w fun e w' => e = .returned (.bool r) ∧ Drawn0 w w' := by
 have H : (if a0 ≥ a1 then (some (decide (a0 ≤ a2))) else (some false)) = some r := h
 clear h
 by_cases c4 : a0 ≥ a1
 ·rw [if_pos c4] at H
  have c4b0 : decide (a1 ≤ a0) = true := decide_eq_true c4
  clear c4
  obtain rfl := Option.some.inj H
  go_enter Try.func48, Try.ntmps48
  go_wp2
  go_ret
  exact ⟨by first | rfl | (simp; done) | (simp [*]; done) | (simp only [IntWalk.i64_left]; done) | (simp [IntWalk.i64_left]; done) | (simp [*, IntWalk.i64_left]; done), by repeat (first | exact Drawn0.refl _ | apply Drawn0.step)⟩
 ·rw [if_neg c4] at H
  have c4b0 : decide (a1 ≤ a0) = false := decide_eq_false c4
  clear c4
  obtain rfl := Option.some.inj H
  go_enter Try.func48, Try.ntmps48
  go_wp2
  go_ret
  exact ⟨by first | rfl | (simp; done) | (simp [*]; done) | (simp only [IntWalk.i64_left]; done) | (simp [IntWalk.i64_left]; done) | (simp [*, IntWalk.i64_left]; done), by repeat (first | exact Drawn0.refl _ | apply Drawn0.step)⟩
def spec_l1All.l0 : Nat → Int → Int → List Int → Int → Int → Option (Bool)
 | 0, _, _, _, _, _ => none
 | k + 1, x1, x2, x9, x10, x11 => if x11 < x10 then (if 0 ≤ x11 then (if x11 < (x9.length : Int) then ((spec_l1In.f (rd x9 x11) x1 x2).bind fun t200 => (if t200 = true then (spec_l1All.l0 k x1 x2 x9 x10 (wrap64 (x11 + 1))) else (some false))) else (none)) else (none)) else (some true)
def spec_l1All.f (k : Nat) (l0 : List Int) (a1 : Int) (a2 : Int) : Option (Bool) := spec_l1All.l0 k a1 a2 l0 (l0.length : Int) 0
theorem spec_l1All.mono_l : ∀ k, (∀ y0 y1 y2 y3 y4, LeO (spec_l1All.l0 k y0 y1 y2 y3 y4) (spec_l1All.l0 (k + 1) y0 y1 y2 y3 y4))
 | 0 => fun _ _ _ _ _ r h => by simp [spec_l1All.l0] at h
 | k + 1 => by
  have ih0 := spec_l1All.mono_l k
  ·intro y0 y1 y2 y3 y4
   unfold spec_l1All.l0
   repeat' first
   | (with_reducible first | exact ih0 _ _ _ _ _ | exact LeO.refl _ | exact LeO.none _ | refine LeO.ite ?_ ?_ | refine LeO.bind ?_ (fun _ => ?_))
   | exact ih0 _ _ _ _ _
   | exact LeO.none _
   | refine LeO.ite ?_ ?_
   | refine LeO.bind ?_ (fun _ => ?_)
theorem spec_l1All.mono : ∀ a0 a1 a2 k, LeO (spec_l1All.f k a0 a1 a2) (spec_l1All.f (k + 1) a0 a1 a2) := by
 intro a0 a1 a2 k
 have ih0 := spec_l1All.mono_l k
 unfold spec_l1All.f
 repeat' first
   | (with_reducible first | exact ih0 _ _ _ _ _ | exact LeO.refl _ | exact LeO.none _ | refine LeO.ite ?_ ?_ | refine LeO.bind ?_ (fun _ => ?_))
   | exact ih0 _ _ _ _ _
   | exact LeO.none _
   | refine LeO.ite ?_ ?_
   | refine LeO.bind ?_ (fun _ => ?_)
theorem spec_l1All.calls (k : Nat) (A0 : Option Addr) (c0 : Nat) (l0 : List Int) (a1 : Int) (a2 : Int) (r : Bool) (w : World) (hr0 : Kd.C (Kd.int .i64) w A0 l0.length l0) (hc0 : l0.length ≤ c0) (h : spec_l1All.f k l0 a1 a2 = some r) :
  Calls Try.prog 54 #[.slice A0 l0.length c0, .int .i64 a1, .int .i64 a2] w fun e w' => e = .returned (.bool r) ∧ Drawn0 w w' := by
 have HR0 := Aside0.mk hr0
 have HC0 := Aside0.mk hc0
 clear hr0 hc0
 have H : (spec_l1All.l0 k a1 a2 l0 (l0.length : Int) 0) = some r := h
 clear h
 have H' := Aside0.mk H
 clear H
 go_enter Try.func54, Try.ntmps54
 go_wp2
 go_loopg [11] k (fun kq v11 w' => ∃ (x11_1 : Int), v11 = .int .i64 x11_1 ∧ Aside0 (spec_l1All.l0 kq a1 a2 l0 (l0.length : Int) x11_1 = some r) ∧ Aside0 (kq ≤ k) ∧ Drawn0 w w')
 case atStart => exact ⟨(0), zE1, H', ⟨Nat.le_refl _⟩, by repeat (first | exact Drawn0.refl _ | apply Drawn0.step)⟩
 case round =>
  clear H'
  try clear p2
  obtain ⟨x11_1, rfl, HA, HK1, ⟨m1, rfl⟩⟩ := hrel
  cases gk with
  | zero => exact absurd HA.out (by simp [spec_l1All.l0])
  | succ k1 =>
   have H := HA.out
   clear HA
   simp only [spec_l1All.l0] at H
   by_cases c4 : x11_1 < (l0.length : Int)
   ·rw [if_pos c4] at H
    have c4b0 : decide (x11_1 < (l0.length : Int)) = true := decide_eq_true c4
    clear c4
    by_cases c5 : 0 ≤ x11_1
    ·rw [if_pos c5] at H
     have c5b0 : decide (0 ≤ x11_1) = true := decide_eq_true c5
     clear c5
     by_cases c6 : x11_1 < (l0.length : Int)
     ·rw [if_pos c6] at H
      have c6b0 : decide (x11_1 < (l0.length : Int)) = true := decide_eq_true c6
      clear c6
      replace H := Option.bind_eq_some_iff.mp H
      obtain ⟨t200, A70, H⟩ := H
      (try dsimp only at H)
      have A7 := Aside0.mk A70
      clear A70
      by_cases c8 : t200 = true
      ·subst c8
       rw [if_pos rfl] at H
       have H' := Aside0.mk H
       clear H
       have p199 : 0 ≤ (x11_1 : Int) := zD
       have q199 : x11_1 < (l0.length : Int) := zD
       obtain ⟨ad199, e199, hx199_0⟩ := Kd.at_int HR0.out x11_1 p199 q199
       cases e199
       replace p199 := eq_true p199
       replace q199 := eq_true q199
       go_wp2_with (first | ((with_reducible refine gate_callee (f := 48) rfl ?_); refine goesL_ (some 18) rfl rfl Try.func48 (by kernel_rfl) rfl #[.int .i64 (rd l0 x11_1), .int .i64 a1, .int .i64 a2] rfl (by (try simp only [List.map_toArray, List.map_cons, List.map_nil]); first | done | rfl | (simp only [List.length_drop, List.length_take]; rfl)) ?_; (with_reducible refine (spec_l1In.calls (rd l0 x11_1) a1 a2 true _ A7.out).mono ?_); rintro e w' ⟨rfl, ⟨nd, rfl⟩⟩; refine ⟨_, rfl, ?_⟩))
       go_roundg k1
       case measure => have := HK1.out; omega
       case rel => exact ⟨(wrap64 (x11_1 + 1)), zE1, H', ⟨by have := HK1.out; omega⟩, by repeat (first | exact Drawn0.refl _ | apply Drawn0.step)⟩
      ·replace c8 := Bool.eq_false_iff.mpr c8
       subst c8
       rw [if_neg zN] at H
       obtain rfl := Option.some.inj H
       have p199 : 0 ≤ (x11_1 : Int) := zD
       have q199 : x11_1 < (l0.length : Int) := zD
       obtain ⟨ad199, e199, hx199_0⟩ := Kd.at_int HR0.out x11_1 p199 q199
       cases e199
       replace p199 := eq_true p199
       replace q199 := eq_true q199
       go_wp2_with (first | ((with_reducible refine gate_callee (f := 48) rfl ?_); refine goesL_ (some 18) rfl rfl Try.func48 (by kernel_rfl) rfl #[.int .i64 (rd l0 x11_1), .int .i64 a1, .int .i64 a2] rfl (by (try simp only [List.map_toArray, List.map_cons, List.map_nil]); first | done | rfl | (simp only [List.length_drop, List.length_take]; rfl)) ?_; (with_reducible refine (spec_l1In.calls (rd l0 x11_1) a1 a2 false _ A7.out).mono ?_); rintro e w' ⟨rfl, ⟨nd, rfl⟩⟩; refine ⟨_, rfl, ?_⟩))
       go_ret
       exact ⟨by first | rfl | (simp; done) | (simp [*]; done) | (simp only [IntWalk.i64_left]; done) | (simp [IntWalk.i64_left]; done) | (simp [*, IntWalk.i64_left]; done), by repeat (first | exact Drawn0.refl _ | apply Drawn0.step)⟩
     ·rw [if_neg c6] at H
      exact absurd H (by simp)
    ·rw [if_neg c5] at H
     exact absurd H (by simp)
   ·rw [if_neg c4] at H
    have c4b0 : decide (x11_1 < (l0.length : Int)) = false := decide_eq_false c4
    clear c4
    obtain rfl := Option.some.inj H
    go_wp2
    go_ret
    exact ⟨by first | rfl | (simp; done) | (simp [*]; done) | (simp only [IntWalk.i64_left]; done) | (simp [IntWalk.i64_left]; done) | (simp [*, IntWalk.i64_left]; done), by repeat (first | exact Drawn0.refl _ | apply Drawn0.step)⟩
def spec_beWeights.f (k : Nat) (l0 : List Int) : Option (Bool) := (spec_l1In.f (l0.length : Int) 1 12).bind fun t201 => (if t201 = true then ((spec_l1All.f k l0 1 100).bind fun t202 => (some t202)) else (some false))
theorem spec_beWeights.mono : ∀ a0 k, LeO (spec_beWeights.f k a0) (spec_beWeights.f (k + 1) a0) := by
 intro a0 k
 unfold spec_beWeights.f
 repeat' first
   | (with_reducible first | exact spec_l1All.mono _ _ _ _ | exact LeO.refl _ | exact LeO.none _ | refine LeO.ite ?_ ?_ | refine LeO.bind ?_ (fun _ => ?_))
   | exact spec_l1All.mono _ _ _ _
   | exact LeO.none _
   | refine LeO.ite ?_ ?_
   | refine LeO.bind ?_ (fun _ => ?_)
theorem spec_beWeights.calls (k : Nat) (A0 : Option Addr) (c0 : Nat) (l0 : List Int) (r : Bool) (w : World) (hr0 : Kd.C (Kd.int .i64) w A0 l0.length l0) (hc0 : l0.length ≤ c0) (h : spec_beWeights.f k l0 = some r) :
  Calls Try.prog 32 #[.slice A0 l0.length c0] w fun e w' => e = .returned (.bool r) ∧ Drawn0 w w' := by
 have HR0 := Aside0.mk hr0
 have HC0 := Aside0.mk hc0
 clear hr0 hc0
 have H : ((spec_l1In.f (l0.length : Int) 1 12).bind fun t201 => (if t201 = true then ((spec_l1All.f k l0 1 100).bind fun t202 => (some t202)) else (some false))) = some r := h
 clear h
 replace H := Option.bind_eq_some_iff.mp H
 obtain ⟨t201, A20, H⟩ := H
 (try dsimp only at H)
 have A2 := Aside0.mk A20
 clear A20
 by_cases c3 : t201 = true
 ·subst c3
  rw [if_pos rfl] at H
  replace H := Option.bind_eq_some_iff.mp H
  obtain ⟨t202, A40, H⟩ := H
  (try dsimp only at H)
  have A4 := Aside0.mk A40
  clear A40
  obtain rfl := Option.some.inj H
  go_enter Try.func32, Try.ntmps32
  go_wp2_with (first | ((with_reducible refine gate_callee (f := 48) rfl ?_); refine goesL_ (some 5) rfl rfl Try.func48 (by kernel_rfl) rfl #[.int .i64 (l0.length : Int), .int .i64 1, .int .i64 12] rfl (by (try simp only [List.map_toArray, List.map_cons, List.map_nil]); first | done | rfl | (simp only [List.length_drop, List.length_take]; rfl)) ?_; (with_reducible refine (spec_l1In.calls (l0.length : Int) 1 12 true _ A2.out).mono ?_); rintro e w' ⟨rfl, ⟨nd, rfl⟩⟩; refine ⟨_, rfl, ?_⟩) | (go_at_call 54; (with_reducible refine (spec_l1All.calls k _ _ l0 1 100 t202 _ ?side1 ?side2 A4.out).mono ?_); (case side1 => exact zC HR0.out); (case side2 => exact HC0.out); rintro e w' ⟨rfl, ⟨nd, rfl⟩⟩))
  go_ret
  exact ⟨by first | rfl | (simp; done) | (simp [*]; done) | (simp only [IntWalk.i64_left]; done) | (simp [IntWalk.i64_left]; done) | (simp [*, IntWalk.i64_left]; done), by repeat (first | exact Drawn0.refl _ | apply Drawn0.step)⟩
 ·replace c3 := Bool.eq_false_iff.mpr c3
  subst c3
  rw [if_neg zN] at H
  obtain rfl := Option.some.inj H
  go_enter Try.func32, Try.ntmps32
  go_wp2_with (first | ((with_reducible refine gate_callee (f := 48) rfl ?_); refine goesL_ (some 5) rfl rfl Try.func48 (by kernel_rfl) rfl #[.int .i64 (l0.length : Int), .int .i64 1, .int .i64 12] rfl (by (try simp only [List.map_toArray, List.map_cons, List.map_nil]); first | done | rfl | (simp only [List.length_drop, List.length_take]; rfl)) ?_; (with_reducible refine (spec_l1In.calls (l0.length : Int) 1 12 false _ A2.out).mono ?_); rintro e w' ⟨rfl, ⟨nd, rfl⟩⟩; refine ⟨_, rfl, ?_⟩))
  go_ret
  exact ⟨by first | rfl | (simp; done) | (simp [*]; done) | (simp only [IntWalk.i64_left]; done) | (simp [IntWalk.i64_left]; done) | (simp [*, IntWalk.i64_left]; done), by repeat (first | exact Drawn0.refl _ | apply Drawn0.step)⟩
end Go.Proofs.Ytcdmmpbcjcajlaa.XFnOrderedCodes
