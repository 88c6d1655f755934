-- by wip/shake.py
import Derived.Test.YtmanjfdchhipmaaGreatDoorXFnBestWithinx0
import Derived.Test.YtmanjfdchhipmaaGreatDoorXFnBestWithinx4
namespace Go.Proofs.YtmanjfdchhipmaaGreatDoor.XFnBestWithin
set_option maxHeartbeats 8000000
set_option maxRecDepth 100000
open Go.RowKit Go.Proofs.YtmanjfdchhipmaaGreatDoor.Hand Go.Proofs.YtmanjfdchhipmaaGreatDoorW.PrintWords Go.Proofs.YtmanjfdchhipmaaGreatDoorW.PrintLast Go.Proofs.YtmanjfdchhipmaaGreatDoorW.PrintMore
attribute [local go_sem] max2_int min2_int max_two min_two max_three min_three max_four min_four   -- for this text's walks alone
set_option linter.unusedVariables false
set_option linter.unusedSimpArgs false
mutual
def spec_beMerge.l0 : Nat → Int → List Int → List Int → Int → Int → Option (List Int)
 | 0, _, _, _, _, _ => none
 | k + 1, x1, x5, x13, x14, x15 => if x15 < x14 then (if 0 ≤ x15 then (if x15 < (x13.length : Int) then ((spec_bePut.f k x5 (rd x13 x15)).bind fun t267 => (spec_beMerge.l0 k x1 t267 x13 x14 (wrap64 (x15 + 1)))) else (none)) else (none)) else (if x1 = 3 then (spec_beMerge.j1 k x1 x5 ([] : List Int) x1 (((x5.length : Int) % 2) == 0)) else (spec_beMerge.j1 k x1 x5 ([] : List Int) x1 false))
def spec_beMerge.j1 : Nat → Int → List Int → List Int → Int → Bool → Option (List Int)
 | 0, _, _, _, _, _ => none
 | k + 1, x1, x5, x8, x9, x31 => if x31 = true then (spec_beMerge.j2 k x1 x5 x8 2) else (spec_beMerge.j2 k x1 x5 x8 x9)
def spec_beMerge.j2 : Nat → Int → List Int → List Int → Int → Option (List Int)
 | 0, _, _, _, _ => none
 | k + 1, x1, x5, x8, x9 => spec_beMerge.l1 k x1 x5 x8 x9
def spec_beMerge.l1 : Nat → Int → List Int → List Int → Int → Option (List Int)
 | 0, _, _, _, _ => none
 | k + 1, x1, x5, x8, x9 => if (x5.length : Int) > 1 then (if 0 ≤ x9 then (if x9 ≤ (x5.length : Int) then ((some (x5.take (x9 : Int).toNat : List Int)).bind fun y270 => (spec_beMerge.l2 k x1 x5 x8 x9 0 y270 (y270.length : Int) 0)) else (none)) else (none)) else (some x8)
def spec_beMerge.l2 : Nat → Int → List Int → List Int → Int → Int → List Int → Int → Int → Option (List Int)
 | 0, _, _, _, _, _, _, _, _ => none
 | k + 1, x1, x5, x8, x9, x10, x37, x38, x39 => if x39 < x38 then (if 0 ≤ x39 then (if x39 < (x37.length : Int) then (spec_beMerge.l2 k x1 x5 x8 x9 (wrap64 (x10 + (rd x37 x39))) x37 x38 (wrap64 (x39 + 1))) else (none)) else (none)) else (if 0 ≤ x9 then (if x9 ≤ (x5.length : Int) then ((spec_bePut.f k (x5.drop (x9 : Int).toNat) x10).bind fun t279 => (if x8.length < 17592186044416 then (spec_beMerge.l1 k x1 t279 (x8 ++ [x10]) x1) else (none))) else (none)) else (none))
end
def spec_beMerge.f (k : Nat) (l0 : List Int) (a1 : Int) : Option (List Int) := spec_beMerge.l0 k a1 ([] : List Int) l0 (l0.length : Int) 0
theorem spec_beMerge.mono_l : ∀ k, (∀ y0 y1 y2 y3 y4, LeO (spec_beMerge.l0 k y0 y1 y2 y3 y4) (spec_beMerge.l0 (k + 1) y0 y1 y2 y3 y4)) ∧ (∀ y0 y1 y2 y3 y4, LeO (spec_beMerge.j1 k y0 y1 y2 y3 y4) (spec_beMerge.j1 (k + 1) y0 y1 y2 y3 y4)) ∧ (∀ y0 y1 y2 y3, LeO (spec_beMerge.j2 k y0 y1 y2 y3) (spec_beMerge.j2 (k + 1) y0 y1 y2 y3)) ∧ (∀ y0 y1 y2 y3, LeO (spec_beMerge.l1 k y0 y1 y2 y3) (spec_beMerge.l1 (k + 1) y0 y1 y2 y3)) ∧ (∀ y0 y1 y2 y3 y4 y5 y6 y7, LeO (spec_beMerge.l2 k y0 y1 y2 y3 y4 y5 y6 y7) (spec_beMerge.l2 (k + 1) y0 y1 y2 y3 y4 y5 y6 y7))
 | 0 => ⟨fun _ _ _ _ _ r h => by simp [spec_beMerge.l0] at h, fun _ _ _ _ _ r h => by simp [spec_beMerge.j1] at h, fun _ _ _ _ r h => by simp [spec_beMerge.j2] at h, fun _ _ _ _ r h => by simp [spec_beMerge.l1] at h, fun _ _ _ _ _ _ _ _ r h => by simp [spec_beMerge.l2] at h⟩
 | k + 1 => by
  obtain ⟨ih0, ih1, ih2, ih3, ih4⟩ := spec_beMerge.mono_l k
  refine ⟨?_, ?_, ?_, ?_, ?_⟩
  ·intro y0 y1 y2 y3 y4
   unfold spec_beMerge.l0
   repeat' first
   | (with_reducible first | exact ih0 _ _ _ _ _ | exact ih1 _ _ _ _ _ | exact ih2 _ _ _ _ | exact ih3 _ _ _ _ | exact ih4 _ _ _ _ _ _ _ _ | exact spec_bePut.mono _ _ _ | exact LeO.refl _ | exact LeO.none _ | refine LeO.ite ?_ ?_ | refine LeO.bind ?_ (fun _ => ?_))
   | exact ih0 _ _ _ _ _
   | exact ih1 _ _ _ _ _
   | exact ih2 _ _ _ _
   | exact ih3 _ _ _ _
   | exact ih4 _ _ _ _ _ _ _ _
   | exact spec_bePut.mono _ _ _
   | exact LeO.none _
   | refine LeO.ite ?_ ?_
   | refine LeO.bind ?_ (fun _ => ?_)
  ·intro y0 y1 y2 y3 y4
   unfold spec_beMerge.j1
   repeat' first
   | (with_reducible first | exact ih0 _ _ _ _ _ | exact ih1 _ _ _ _ _ | exact ih2 _ _ _ _ | exact ih3 _ _ _ _ | exact ih4 _ _ _ _ _ _ _ _ | exact spec_bePut.mono _ _ _ | exact LeO.refl _ | exact LeO.none _ | refine LeO.ite ?_ ?_ | refine LeO.bind ?_ (fun _ => ?_))
   | exact ih0 _ _ _ _ _
   | exact ih1 _ _ _ _ _
   | exact ih2 _ _ _ _
   | exact ih3 _ _ _ _
   | exact ih4 _ _ _ _ _ _ _ _
   | exact spec_bePut.mono _ _ _
   | exact LeO.none _
   | refine LeO.ite ?_ ?_
   | refine LeO.bind ?_ (fun _ => ?_)
  ·intro y0 y1 y2 y3
   unfold spec_beMerge.j2
   repeat' first
   | (with_reducible first | exact ih0 _ _ _ _ _ | exact ih1 _ _ _ _ _ | exact ih2 _ _ _ _ | exact ih3 _ _ _ _ | exact ih4 _ _ _ _ _ _ _ _ | exact spec_bePut.mono _ _ _ | exact LeO.refl _ | exact LeO.none _ | refine LeO.ite ?_ ?_ | refine LeO.bind ?_ (fun _ => ?_))
   | exact ih0 _ _ _ _ _
   | exact ih1 _ _ _ _ _
   | exact ih2 _ _ _ _
   | exact ih3 _ _ _ _
   | exact ih4 _ _ _ _ _ _ _ _
   | exact spec_bePut.mono _ _ _
   | exact LeO.none _
   | refine LeO.ite ?_ ?_
   | refine LeO.bind ?_ (fun _ => ?_)
  ·intro y0 y1 y2 y3
   unfold spec_beMerge.l1
   repeat' first
   | (with_reducible first | exact ih0 _ _ _ _ _ | exact ih1 _ _ _ _ _ | exact ih2 _ _ _ _ | exact ih3 _ _ _ _ | exact ih4 _ _ _ _ _ _ _ _ | exact spec_bePut.mono _ _ _ | exact LeO.refl _ | exact LeO.none _ | refine LeO.ite ?_ ?_ | refine LeO.bind ?_ (fun _ => ?_))
   | exact ih0 _ _ _ _ _
   | exact ih1 _ _ _ _ _
   | exact ih2 _ _ _ _
   | exact ih3 _ _ _ _
   | exact ih4 _ _ _ _ _ _ _ _
   | exact spec_bePut.mono _ _ _
   | exact LeO.none _
   | refine LeO.ite ?_ ?_
   | refine LeO.bind ?_ (fun _ => ?_)
  ·intro y0 y1 y2 y3 y4 y5 y6 y7
   unfold spec_beMerge.l2
   repeat' first
   | (with_reducible first | exact ih0 _ _ _ _ _ | exact ih1 _ _ _ _ _ | exact ih2 _ _ _ _ | exact ih3 _ _ _ _ | exact ih4 _ _ _ _ _ _ _ _ | exact spec_bePut.mono _ _ _ | exact LeO.refl _ | exact LeO.none _ | refine LeO.ite ?_ ?_ | refine LeO.bind ?_ (fun _ => ?_))
   | exact ih0 _ _ _ _ _
   | exact ih1 _ _ _ _ _
   | exact ih2 _ _ _ _
   | exact ih3 _ _ _ _
   | exact ih4 _ _ _ _ _ _ _ _
   | exact spec_bePut.mono _ _ _
   | exact LeO.none _
   | refine LeO.ite ?_ ?_
   | refine LeO.bind ?_ (fun _ => ?_)
theorem spec_beMerge.mono : ∀ a0 a1 k, LeO (spec_beMerge.f k a0 a1) (spec_beMerge.f (k + 1) a0 a1) := by
 intro a0 a1 k
 obtain ⟨ih0, ih1, ih2, ih3, ih4⟩ := spec_beMerge.mono_l k
 unfold spec_beMerge.f
 repeat' first
   | (with_reducible first | exact ih0 _ _ _ _ _ | exact ih1 _ _ _ _ _ | exact ih2 _ _ _ _ | exact ih3 _ _ _ _ | exact ih4 _ _ _ _ _ _ _ _ | exact spec_bePut.mono _ _ _ | exact LeO.refl _ | exact LeO.none _ | refine LeO.ite ?_ ?_ | refine LeO.bind ?_ (fun _ => ?_))
   | exact ih0 _ _ _ _ _
   | exact ih1 _ _ _ _ _
   | exact ih2 _ _ _ _
   | exact ih3 _ _ _ _
   | exact ih4 _ _ _ _ _ _ _ _
   | exact spec_bePut.mono _ _ _
   | exact LeO.none _
   | refine LeO.ite ?_ ?_
   | refine LeO.bind ?_ (fun _ => ?_)
theorem spec_beMerge.calls (k : Nat) (A0 : Option Addr) (c0 : Nat) (l0 : List Int) (a1 : Int) (r : List Int) (w : World) (hr0 : Kd.C (Kd.int .i64) w A0 l0.length l0) (hc0 : l0.length ≤ c0) (h : spec_beMerge.f k l0 a1 = some r) :
  Calls Tryz.prog 174 #[.slice A0 l0.length c0, .int .i64 a1] w fun e w' => ∃ v0_ : Value, e = .returned (v0_) ∧ Kd.R (Kd.int .i64) 3 w' w.heap.size (fun _ => True) v0_ r ∧ Below w.heap.size w w' := by
 have HR0 := Aside0.mk hr0
 have HC0 := Aside0.mk hc0
 clear hr0 hc0
 have HB := Aside0.mk (Below.refl w.heap.size w)
 have H : (spec_beMerge.l0 k a1 ([] : List Int) l0 (l0.length : Int) 0) = some r := h
 clear h
 have H' := Aside0.mk H
 clear H
 go_enter Tryz.func174, Tryz.ntmps174
 go_wp2
 go_loopg [5, 15] k (fun kq v5 v15 w' => ∃ (x5_1 : List Int) (x15_1 : Int), v15 = .int .i64 x15_1 ∧ Aside0 (spec_beMerge.l0 kq a1 x5_1 l0 (l0.length : Int) x15_1 = some r) ∧ Aside0 (kq ≤ k) ∧ Aside0 (Kd.R (Kd.int .i64) 3 w' w.heap.size (fun _ => True) v5 x5_1) ∧ Aside0 (Below w.heap.size w w'))
 case atStart => exact ⟨(([] : List Int)), (0), zE1, H', ⟨Nat.le_refl _⟩, ⟨by first | exact Kd.R_nil _ _ _ _ _ | exact Kd.N_nil _ _ _ _ _ | exact Kd.V_nil _ _ _ _ _ | exact Kd.Q_nil _ _ _ _ _ | exact Kd.S_nil _ _ _ _ _⟩, ⟨zB HB.out⟩⟩
 case round =>
  clear H'
  try clear c1
  try clear p2
  obtain ⟨x5_1, x15_1, rfl, HA, HK1, HO_5, HB⟩ := hrel
  cases gk with
  | zero => exact absurd HA.out (by simp [spec_beMerge.l0])
  | succ k1 =>
   have H := HA.out
   clear HA
   simp only [spec_beMerge.l0] at H
   by_cases c3 : x15_1 < (l0.length : Int)
   ·rw [if_pos c3] at H
    have c3b0 : decide (x15_1 < (l0.length : Int)) = true := decide_eq_true c3
    clear c3
    by_cases c4 : 0 ≤ x15_1
    ·rw [if_pos c4] at H
     have c4b0 : decide (0 ≤ x15_1) = true := decide_eq_true c4
     clear c4
     by_cases c5 : x15_1 < (l0.length : Int)
     ·rw [if_pos c5] at H
      have c5b0 : decide (x15_1 < (l0.length : Int)) = true := decide_eq_true c5
      clear c5
      replace H := Option.bind_eq_some_iff.mp H
      obtain ⟨t267, A60, H⟩ := H
      (try dsimp only at H)
      have A6 := Aside0.mk A60
      clear A60
      have H' := Aside0.mk H
      clear H
      have p266 : 0 ≤ (x15_1 : Int) := zD
      have q266 : x15_1 < (l0.length : Int) := zD
      obtain ⟨ad266, e266, hx266_0⟩ := Kd.at_int HR0.out x15_1 p266 q266
      cases e266
      (try replace hx266_0 := (HB.out.cell (World.block_lt_of_cell? w _ hx266_0)).trans hx266_0)
      replace p266 := eq_true p266
      replace q266 := eq_true q266
      obtain ⟨Ao7, co7, eo7⟩ := Kd.R_slice HO_5.out
      subst eo7
      go_wp2_with (first | ((with_reducible refine gate_callee (f := 49) rfl ?_); refine goesL_ (some 21) rfl rfl Tryz.func49 (by kernel_rfl) rfl #[.slice Ao7 x5_1.length co7, .int .i64 (rd l0 x15_1)] rfl (by (try simp only [List.map_toArray, List.map_cons, List.map_nil]); first | done | rfl | (simp only [List.length_drop, List.length_take]; rfl)) ?_; (with_reducible refine (spec_bePut.calls k1 _ _ x5_1 (rd l0 x15_1) t267 _ ?side1 ?side2 A6.out).mono ?_); (case side1 => exact zC (Kd.R_reads' HO_5.out).2.2); (case side2 => exact (Kd.R_reads' HO_5.out).2.1); rintro e w8 ⟨v268, rfl, ho0, hb⟩; refine ⟨_, rfl, ?_⟩; have n0_ := Aside0.mk (Kd.R_elder' (zR HO_5.out) (Kd.R_base ho0) hb); have n1_ := Aside0.mk (Kd.R_lower (Kd.R_new' ho0 (Kd.R_lt (zR HO_5.out))) (below_size (zB HB.out))); have n2_ := Aside0.mk (below_step (zB HB.out) hb); clear HO_5; clear HB; have HO_5 := n0_; have HO269 := n1_; have HB := n2_; clear n0_ n1_ n2_; (try clear hb); (try clear hb2); (try clear hk); (try clear hi); (try clear ho0)))
      go_roundg k1
      case measure => have := HK1.out; omega
      case rel => exact ⟨(t267), (wrap64 (x15_1 + 1)), zE1, H', ⟨by have := HK1.out; omega⟩, ⟨by (with_reducible repeat (first | apply Kd.R_alloc | apply Kd.R_drewN | apply Kd.R_drew)); exact Kd.R_mono HO269.out (fun _ hk => trivial)⟩, ⟨zB HB.out⟩⟩
     ·rw [if_neg c5] at H
      exact absurd H (by simp)
    ·rw [if_neg c4] at H
     exact absurd H (by simp)
   ·rw [if_neg c3] at H
    have c3b0 : decide (x15_1 < (l0.length : Int)) = false := decide_eq_false c3
    clear c3
    have HC9 := Aside0.mk H
    clear H
    go_upto_region 9 with (fail)
    go_cut [31] (fun v31 wc => ∃ (kq : Nat) (x31_8 : Bool), v31 = .bool x31_8 ∧ Aside0 (spec_beMerge.j1 kq a1 x5_1 ([] : List Int) a1 x31_8 = some r) ∧ Aside0 (kq ≤ k1) ∧ Aside0 (Kd.R (Kd.int .i64) 3 wc w.heap.size (fun k_ => some k_ ≠ ((.slice none 0 0) : Value).ownBlock) u5 x5_1) ∧ Aside0 (Kd.R (Kd.int .i64) 3 wc w.heap.size (fun k_ => some k_ ≠ (u5 : Value).ownBlock) (.slice none 0 0) ([] : List Int)) ∧ Aside0 (Below w.heap.size w wc))
    case first =>
     have H := HC9.out
     clear HC9
     by_cases c10 : a1 = 3
     ·rw [if_pos c10] at H
      have c10b0 : (a1 == 3) = true := beq_iff_eq.mpr c10
      have c10b1 : (a1 != 3) = false := bne_eq_false_iff_eq.mpr c10
      clear c10
      (first | rw [c10b0] | (simp only [i64_w, i32_w]; rw [c10b0]) | skip)
      have H' := Aside0.mk H
      clear H
      obtain ⟨Ao11, co11, eo11⟩ := Kd.R_slice HO_5.out
      subst eo11
      go_wp2
      go_meet
      case rel => exact ⟨_, ((((x5_1.length : Int) % 2) == 0)), zE1, H', ⟨by have := HK1.out; first | omega | exact Nat.le_refl _⟩, ⟨by (with_reducible repeat (first | apply Kd.R_alloc | apply Kd.R_drewN | apply Kd.R_drew)); exact Kd.R_mono HO_5.out (fun _ hk => (by simp [Value.ownBlock]))⟩, ⟨by first | exact Kd.R_nil _ _ _ _ _ | exact Kd.N_nil _ _ _ _ _ | exact Kd.V_nil _ _ _ _ _ | exact Kd.Q_nil _ _ _ _ _ | exact Kd.S_nil _ _ _ _ _⟩, ⟨zB HB.out⟩⟩
     ·rw [if_neg c10] at H
      have c10b0 : (a1 == 3) = false := beq_eq_false_iff_ne.mpr c10
      have c10b1 : (a1 != 3) = true := bne_iff_ne.mpr c10
      (first | rw [c10b0] | (simp only [i64_w, i32_w]; rw [c10b0]) | skip)
      have H' := Aside0.mk H
      clear H
      go_wp2
      go_meet
      case rel => exact ⟨_, (false), zE1, H', ⟨by have := HK1.out; first | omega | exact Nat.le_refl _⟩, ⟨by (with_reducible repeat (first | apply Kd.R_alloc | apply Kd.R_drewN | apply Kd.R_drew)); exact Kd.R_mono HO_5.out (fun _ hk => (by simp [Value.ownBlock]))⟩, ⟨by first | exact Kd.R_nil _ _ _ _ _ | exact Kd.N_nil _ _ _ _ _ | exact Kd.V_nil _ _ _ _ _ | exact Kd.Q_nil _ _ _ _ _ | exact Kd.S_nil _ _ _ _ _⟩, ⟨zB HB.out⟩⟩
    case rest =>
     clear HC9
     try clear c1
     try clear p2
     try clear q2
     try clear hx2
     try clear c3
     try clear c3b0
     try clear c4
     try clear c4b0
     try clear c5
     try clear c5b0
     try clear p6
     try clear c10
     try clear c10b0
     try clear c10b1
     try clear hx266_0
     try clear p2
     try clear p266
     try clear q266
     obtain ⟨kq, x31_8, rfl, HA, HJ8, HO_5, HO_8, HB⟩ := hcut
     cases kq with
     | zero => exact absurd HA.out (by simp [spec_beMerge.j1])
     | succ kj8 =>
      have H := HA.out
      clear HA
      simp only [spec_beMerge.j1] at H
      have HC12 := Aside0.mk H
      clear H
      go_upto_if 31 with (fail)
      go_cut [9] (fun v9 wc => ∃ (kq : Nat) (x9_11 : Int), v9 = .int .i64 x9_11 ∧ Aside0 (spec_beMerge.j2 kq a1 x5_1 ([] : List Int) x9_11 = some r) ∧ Aside0 (kq ≤ kj8) ∧ Aside0 (Kd.R (Kd.int .i64) 3 wc w.heap.size (fun k_ => some k_ ≠ ((.slice none 0 0) : Value).ownBlock) u5 x5_1) ∧ Aside0 (Kd.R (Kd.int .i64) 3 wc w.heap.size (fun k_ => some k_ ≠ (u5 : Value).ownBlock) (.slice none 0 0) ([] : List Int)) ∧ Aside0 (Below w.heap.size w wc))
      case first =>
       have H := HC12.out
       clear HC12
       by_cases c13 : x31_8 = true
       ·subst c13
        rw [if_pos rfl] at H
        have H' := Aside0.mk H
        clear H
        go_wp2
        go_meet
        case rel => exact ⟨_, (2), zE1, H', ⟨by have := HK1.out; have := HJ8.out; first | omega | exact Nat.le_refl _⟩, ⟨zR HO_5.out⟩, ⟨zR HO_8.out⟩, ⟨zB HB.out⟩⟩
       ·replace c13 := Bool.eq_false_iff.mpr c13
        subst c13
        rw [if_neg zN] at H
        have H' := Aside0.mk H
        clear H
        go_wp2
        go_meet
        case rel => exact ⟨_, (a1), zE1, H', ⟨by have := HK1.out; have := HJ8.out; first | omega | exact Nat.le_refl _⟩, ⟨zR HO_5.out⟩, ⟨zR HO_8.out⟩, ⟨zB HB.out⟩⟩
      case rest =>
       clear HC12
       try clear c1
       try clear p2
       try clear q2
       try clear hx2
       try clear c3
       try clear c3b0
       try clear c4
       try clear c4b0
       try clear c5
       try clear c5b0
       try clear p6
       try clear c10
       try clear c10b0
       try clear c10b1
       try clear c13
       try clear hx266_0
       try clear p2
       try clear p266
       try clear p6
       try clear q2
       try clear q266
       obtain ⟨kq, x9_11, rfl, HA, HJ11, HO_5, HO_8, HB⟩ := hcut
       cases kq with
       | zero => exact absurd HA.out (by simp [spec_beMerge.j2])
       | succ kj11 =>
        have H := HA.out
        clear HA
        simp only [spec_beMerge.j2] at H
        have H' := Aside0.mk H
        clear H
        go_wp2
        go_loopg [5, 8, 9] kj11 (fun kq v5 v8 v9 w' => ∃ (x5_4 : List Int) (x8_4 : List Int) (x9_4 : Int), v9 = .int .i64 x9_4 ∧ Aside0 (spec_beMerge.l1 kq a1 x5_4 x8_4 x9_4 = some r) ∧ Aside0 (kq ≤ kj11) ∧ Aside0 (Kd.R (Kd.int .i64) 3 w' w.heap.size (fun k_ => some k_ ≠ (v8 : Value).ownBlock) v5 x5_4) ∧ Aside0 (Kd.R (Kd.int .i64) 3 w' w.heap.size (fun k_ => some k_ ≠ (v5 : Value).ownBlock) v8 x8_4) ∧ Aside0 (Below w.heap.size w w'))
        case atStart => exact ⟨(x5_1), (([] : List Int)), (x9_11), zE1, H', ⟨Nat.le_refl _⟩, ⟨zR HO_5.out⟩, ⟨zR HO_8.out⟩, ⟨zB HB.out⟩⟩
        case round =>
         clear H'
         try clear c1
         try clear p2
         try clear q2
         try clear hx2
         try clear c3
         try clear c3b0
         try clear c4
         try clear c4b0
         try clear c5
         try clear c5b0
         try clear p6
         try clear c10
         try clear c10b0
         try clear c10b1
         try clear c13
         try clear hx266_0
         try clear p2
         try clear p266
         try clear p6
         try clear q2
         try clear q266
         obtain ⟨x5_4, x8_4, x9_4, rfl, HA, HK4, HO_5, HO_8, HB⟩ := hrel
         cases gk with
         | zero => exact absurd HA.out (by simp [spec_beMerge.l1])
         | succ k4 =>
          have H := HA.out
          clear HA
          simp only [spec_beMerge.l1] at H
          by_cases c14 : (x5_4.length : Int) > 1
          ·rw [if_pos c14] at H
           have c14b0 : decide (1 < (x5_4.length : Int)) = true := decide_eq_true c14
           have c14b1 : decide (1 < x5_4.length) = true := decide_eq_true (by omega)
           clear c14
           by_cases c15 : 0 ≤ x9_4
           ·rw [if_pos c15] at H
            have c15b0 := eq_true c15
            have c15b1 : decide (0 ≤ x9_4) = true := decide_eq_true c15
            clear c15
            by_cases c16 : x9_4 ≤ (x5_4.length : Int)
            ·rw [if_pos c16] at H
             have c16b0 := eq_true c16
             have c16b1 : decide (x9_4 ≤ (x5_4.length : Int)) = true := decide_eq_true c16
             clear c16
             obtain ⟨y270, hy270⟩ : ∃ y_ : List Int, y_ = (x5_4.take (x9_4 : Int).toNat) := ⟨_, rfl⟩
             replace H : (spec_beMerge.l2 k4 a1 x5_4 x8_4 x9_4 0 y270 (y270.length : Int) 0) = some r := by first | (rw [hy270]; with_reducible exact H) | (have H2_ := (Option.bind_some _ _).symm.trans H; rw [hy270]; with_reducible exact H2_) | (have H2_ := (Option.bind_some _ _).symm.trans H; with_reducible exact H2_) | with_reducible exact H | (rw [hy270]; exact H) | exact H
             have Ny270 := Aside0.mk hy270
             clear hy270
             have H' := Aside0.mk H
             clear H
             obtain ⟨Ao17, co17, eo17⟩ := Kd.R_slice HO_5.out
             subst eo17
             have q18 : (x9_4 : Int) ≤ ((x5_4.length : Int) : Int) := zD
             obtain ⟨i018, hi018, _, hsz18, _⟩ := info_parts info3
             have hroom18 : x5_4.length ≤ co17 := (Kd.R_reads' HO_5.out).2.1
             have hC18 : Kd.C (Kd.int .i64) _ Ao17 x5_4.length x5_4 := (Kd.R_reads' HO_5.out).2.2
             have hcut18 := cut_to (P := Tryz.prog) 24 3 .i64 Tryz.underlying24 hi018 Ao17 x5_4.length co17 x9_4 (zD) q18 hroom18
             have hr18 := Kd.C_take (m := (x9_4 : Int).toNat) hC18 (by omega)
             have hy18 : y270.length = (x9_4 : Int).toNat := (by rw [Ny270.out, List.length_take]; omega)
             rw [← Ny270.out] at hr18
             rw [← hy18] at hcut18
             have HR273 := Aside0.mk hr18
             have HC273 := Aside0.mk (show y270.length ≤ co17 from by omega)
             clear hr18 hC18 hroom18 hi018 hsz18
             have KY18 := Aside0.mk hy18
             clear hy18
             have KL18 := Aside0.mk (show (x9_4 : Int).toNat ≤ x5_4.length from by omega)
             replace q18 := eq_true q18
             go_wp2
             go_loopg [10, 39] k4 (fun kq v10 v39 w' => ∃ (x10_5 : Int) (x39_5 : Int), v10 = .int .i64 x10_5 ∧ v39 = .int .i64 x39_5 ∧ Aside0 (spec_beMerge.l2 kq a1 x5_4 x8_4 x9_4 x10_5 y270 (y270.length : Int) x39_5 = some r) ∧ Aside0 (kq ≤ k4) ∧ Aside0 (Kd.R (Kd.int .i64) 3 w' w.heap.size (fun k_ => some k_ ≠ (u8 : Value).ownBlock) (.slice Ao17 x5_4.length co17) x5_4) ∧ Aside0 (Kd.R (Kd.int .i64) 3 w' w.heap.size (fun k_ => some k_ ≠ ((.slice Ao17 x5_4.length co17) : Value).ownBlock) u8 x8_4) ∧ Aside0 (Kd.C (Kd.int .i64) w' Ao17 y270.length y270) ∧ Aside0 (Below w.heap.size w w'))
             case atStart => exact ⟨(0), (0), zE1, zE1, H', ⟨Nat.le_refl _⟩, ⟨zR HO_5.out⟩, ⟨zR HO_8.out⟩, ⟨by repeat (first | (with_reducible exact HR273.out) | (with_reducible refine Kd.C_alloc ?_ _) | (with_reducible refine Kd.C_drewN ?_ _) | (with_reducible refine Kd.C_drew ?_) | exact HR273.out)⟩, ⟨zB HB.out⟩⟩
             case round =>
              clear H'
              try clear c1
              try clear q1
              try clear p2
              try clear q2
              try clear hx2
              try clear c3
              try clear c3b0
              try clear c4
              try clear c4b0
              try clear c5
              try clear c5b0
              try clear p6
              try clear c10
              try clear c10b0
              try clear c10b1
              try clear c13
              try clear c14
              try clear c14b0
              try clear c14b1
              try clear c15
              try clear c15b0
              try clear c15b1
              try clear c16
              try clear c16b0
              try clear c16b1
              try clear c17
              try clear q18
              try clear hx266_0
              try clear p2
              try clear p266
              try clear p6
              try clear q18
              try clear q2
              try clear q266
              obtain ⟨x10_5, x39_5, rfl, rfl, HA, HK5, HO_5, HO_8, HR273, HB⟩ := hrel
              cases gk with
              | zero => exact absurd HA.out (by simp [spec_beMerge.l2])
              | succ k5 =>
               have H := HA.out
               clear HA
               simp only [spec_beMerge.l2] at H
               by_cases c19 : x39_5 < (y270.length : Int)
               ·rw [if_pos c19] at H
                have c19b0 : decide (x39_5 < (y270.length : Int)) = true := decide_eq_true c19
                clear c19
                by_cases c20 : 0 ≤ x39_5
                ·rw [if_pos c20] at H
                 have c20b0 : decide (0 ≤ x39_5) = true := decide_eq_true c20
                 clear c20
                 by_cases c21 : x39_5 < (y270.length : Int)
                 ·rw [if_pos c21] at H
                  have c21b0 : decide (x39_5 < (y270.length : Int)) = true := decide_eq_true c21
                  clear c21
                  have H' := Aside0.mk H
                  clear H
                  have p274 : 0 ≤ (x39_5 : Int) := zD
                  have q274 : x39_5 < (y270.length : Int) := zD
                  obtain ⟨ad274, e274, hx274_0⟩ := Kd.at_int HR273.out x39_5 p274 q274
                  cases e274
                  (try replace hx274_0 := (HB.out.cell (World.block_lt_of_cell? w _ hx274_0)).trans hx274_0)
                  replace p274 := eq_true p274
                  replace q274 := eq_true q274
                  go_wp2
                  go_roundg k5
                  case measure => have := HK1.out; have := HJ8.out; have := HJ11.out; have := HK4.out; have := HK5.out; omega
                  case rel => exact ⟨(wrap64 (x10_5 + (rd y270 x39_5))), (wrap64 (x39_5 + 1)), zE1, zE1, H', ⟨by have := HK1.out; have := HJ8.out; have := HJ11.out; have := HK4.out; have := HK5.out; omega⟩, ⟨zR HO_5.out⟩, ⟨zR HO_8.out⟩, ⟨by repeat (first | (with_reducible exact HR273.out) | (with_reducible refine Kd.C_alloc ?_ _) | (with_reducible refine Kd.C_drewN ?_ _) | (with_reducible refine Kd.C_drew ?_) | exact HR273.out)⟩, ⟨zB HB.out⟩⟩
                 ·rw [if_neg c21] at H
                  exact absurd H (by simp)
                ·rw [if_neg c20] at H
                 exact absurd H (by simp)
               ·rw [if_neg c19] at H
                have c19b0 : decide (x39_5 < (y270.length : Int)) = false := decide_eq_false c19
                clear c19
                by_cases c22 : 0 ≤ x9_4
                ·rw [if_pos c22] at H
                 have c22b0 := eq_true c22
                 have c22b1 : decide (0 ≤ x9_4) = true := decide_eq_true c22
                 clear c22
                 by_cases c23 : x9_4 ≤ (x5_4.length : Int)
                 ·rw [if_pos c23] at H
                  have c23b0 := eq_true c23
                  have c23b1 : decide (x9_4 ≤ (x5_4.length : Int)) = true := decide_eq_true c23
                  clear c23
                  obtain ⟨y275, hy275⟩ : ∃ y_ : List Int, y_ = (x5_4.drop (x9_4 : Int).toNat) := ⟨_, rfl⟩
                  replace H : ((spec_bePut.f k5 y275 x10_5).bind fun t279 => (if x8_4.length < 17592186044416 then (spec_beMerge.l1 k5 a1 t279 (x8_4 ++ [x10_5]) a1) else (none))) = some r := by first | (rw [hy275]; with_reducible exact H) | (have H2_ := (Option.bind_some _ _).symm.trans H; rw [hy275]; with_reducible exact H2_) | (have H2_ := (Option.bind_some _ _).symm.trans H; with_reducible exact H2_) | with_reducible exact H | (rw [hy275]; exact H) | exact H
                  have Ny275 := Aside0.mk hy275
                  clear hy275
                  replace H := Option.bind_eq_some_iff.mp H
                  obtain ⟨t279, A240, H⟩ := H
                  (try dsimp only at H)
                  have A24 := Aside0.mk A240
                  clear A240
                  by_cases c25 : x8_4.length < 17592186044416
                  ·rw [if_pos c25] at H
                   have LMc25 := Aside0.mk c25
                   clear c25
                   obtain ⟨y282, hy282⟩ : ∃ y_ : List Int, y_ = (x8_4 ++ [x10_5]) := ⟨_, rfl⟩
                   replace H : (spec_beMerge.l1 k5 a1 t279 y282 a1) = some r := by first | (rw [hy282]; with_reducible exact H) | (have H2_ := (Option.bind_some _ _).symm.trans H; rw [hy282]; with_reducible exact H2_) | (have H2_ := (Option.bind_some _ _).symm.trans H; with_reducible exact H2_) | with_reducible exact H | (rw [hy282]; exact H) | exact H
                   have Ny282 := Aside0.mk hy282
                   clear hy282
                   have H' := Aside0.mk H
                   clear H
                   have q26 : (x9_4 : Int) ≤ ((x5_4.length : Int) : Int) := zD
                   obtain ⟨i026, hi026, _, hsz26, _⟩ := info_parts info3
                   have hroom26 : x5_4.length ≤ co17 := (Kd.R_reads' HO_5.out).2.1
                   have hC26 : Kd.C (Kd.int .i64) _ Ao17 x5_4.length x5_4 := (Kd.R_reads' HO_5.out).2.2
                   have q026 : (0 : Int) ≤ (x9_4 : Int) := zD
                   have hcut26 := cut_from (P := Tryz.prog) 24 3 .i64 Tryz.underlying24 hi026 1 hsz26 Ao17 x5_4.length co17 x9_4 q026 q26
                   have hr26 := Kd.C_drop (m := (x9_4 : Int).toNat) (c := co17) hC26 (by omega) hroom26
                   obtain ⟨A26, hA26⟩ : ∃ A1, A1 = (if co17 = (x9_4 : Int).toNat then Ao17 else (Ao17 : Option Addr).map (·.add ((x9_4 : Int).toNat * 1))) := ⟨_, rfl⟩
                   obtain ⟨c26, hc26⟩ : ∃ c1, c1 = co17 - (x9_4 : Int).toNat := ⟨_, rfl⟩
                   have hy26 : y275.length = x5_4.length - (x9_4 : Int).toNat := (by rw [Ny275.out, List.length_drop] <;> omega)
                   rw [show (x5_4).drop (x9_4 : Int).toNat = y275 from Ny275.out.symm] at hr26
                   replace hr26 : Kd.C (Kd.int .i64) _ A26 y275.length y275 := (by rw [hA26]; exact hr26)
                   rw [← hy26, ← hA26, ← hc26] at hcut26
                   have HR278 := Aside0.mk hr26
                   have HC278 := Aside0.mk (show y275.length ≤ c26 from by rw [hy26, hc26]; exact Nat.sub_le_sub_right hroom26 _)
                   clear hr26 hC26 hroom26 hi026 hsz26 hc26
                   have KY26 := Aside0.mk hy26
                   have KA26 := Aside0.mk hA26
                   clear hy26 hA26
                   have KL26 := Aside0.mk (show (x9_4 : Int).toNat ≤ x5_4.length from by omega)
                   replace q26 := eq_true q26
                   go_wp2_with (first | ((with_reducible refine gate_callee (f := 49) rfl ?_); refine goesL_ (some 51) rfl rfl Tryz.func49 (by kernel_rfl) rfl #[.slice A26 y275.length c26, .int .i64 x10_5] rfl (by (try simp only [List.map_toArray, List.map_cons, List.map_nil]); first | done | rfl | (simp only [List.length_drop, List.length_take]; rfl)) ?_; (with_reducible refine (spec_bePut.calls k5 _ _ y275 x10_5 t279 _ ?side1 ?side2 A24.out).mono ?_); (case side1 => repeat (first | exact (by repeat (first | (with_reducible exact HR278.out) | (with_reducible refine Kd.C_alloc ?_ _) | (with_reducible refine Kd.C_drewN ?_ _) | (with_reducible refine Kd.C_drew ?_) | exact HR278.out)) | (with_reducible refine Kd.C_alloc ?_ _) | (with_reducible refine Kd.C_drewN ?_ _) | (with_reducible refine Kd.C_drew ?_))); (case side2 => exact HC278.out); rintro e w27 ⟨v280, rfl, ho0, hb⟩; refine ⟨_, rfl, ?_⟩; have n0_ := Aside0.mk (Kd.R_elder' (zR HO_5.out) (Kd.R_base ho0) hb); have n1_ := Aside0.mk (Kd.R_elder' (zR HO_8.out) (Kd.R_base ho0) hb); have n2_ := Aside0.mk (Kd.R_lower (Kd.R_new' (Kd.R_new' ho0 (Kd.R_lt (zR HO_5.out))) (Kd.R_lt (zR HO_8.out))) (below_size (zB HB.out))); have n3_ := Aside0.mk (Kd.C_below (by repeat (first | (with_reducible exact HR273.out) | (with_reducible refine Kd.C_alloc ?_ _) | (with_reducible refine Kd.C_drewN ?_ _) | (with_reducible refine Kd.C_drew ?_) | exact HR273.out)) hb); have n4_ := Aside0.mk (Kd.C_below (by repeat (first | (with_reducible exact HR278.out) | (with_reducible refine Kd.C_alloc ?_ _) | (with_reducible refine Kd.C_drewN ?_ _) | (with_reducible refine Kd.C_drew ?_) | exact HR278.out)) hb); have n5_ := Aside0.mk (below_step (zB HB.out) hb); clear HO_5; clear HO_8; clear HR273; clear HR278; clear HB; have HO_5 := n0_; have HO_8 := n1_; have HO281 := n2_; have HR273 := n3_; have HR278 := n4_; have HB := n5_; clear n0_ n1_ n2_ n3_ n4_ n5_; (try clear hb); (try clear hb2); (try clear hk); (try clear hi); (try clear ho0)) | ((with_reducible refine gate_builtin (b := .append) (xs := #[.tmp 52, .tmp 54]) rfl ?_); (try (refine gate_guard (by rfl) ?_; dsimp only)); at_builtin; refine Kd.R_append (Kd.int .i64) (w0 := w) w.heap.size rfl (.tmp 52) (.tmp 54) 24 3 (.int .i64 0) 8 rfl Tryz.underlying24 info3 rfl (by decide) (by omega) u8 x8_4 x10_5 [.int .i64 x10_5] (fun k_ => some k_ ≠ (.slice Ao17 x5_4.length co17 : Value).ownBlock ∧ some k_ ≠ (v280 : Value).ownBlock) (fun _ => False) rfl rfl ?aP (fun _ hk => hk.elim) ?aF ?aO ?aB ?aS ?aL ?_; (case aP => exact rfl); (case aB => exact (zB HB.out)); (case aF => exact (fun k_ hk => ⟨Kd.fresh' (Kd.R_lt (zR HO_5.out)) k_ hk, Kd.fresh' (Kd.R_lt (zR HO281.out)) k_ hk⟩)); (case aO => exact (zR HO_8.out)); (case aS => exact (below_size (zB HB.out))); (case aL => have := LMc25.out; omega); intro v283 w28 ho hb hg hat; rw [← Ny282.out] at ho; have n0_ := Aside0.mk (Kd.R_after (ok := (fun k_ => some k_ ≠ (v280 : Value).ownBlock)) (by (with_reducible repeat (first | apply Kd.R_alloc | apply Kd.R_drewN | apply Kd.R_drew)); exact Kd.R_mono HO_5.out (fun _ hk => ⟨hk.2, hk.1⟩)) hg hat); have n1_ := Aside0.mk (Kd.R_after (ok := (fun k_ => some k_ ≠ (.slice Ao17 x5_4.length co17 : Value).ownBlock)) (by (with_reducible repeat (first | apply Kd.R_alloc | apply Kd.R_drewN | apply Kd.R_drew)); exact Kd.R_mono HO281.out (fun _ hk => ⟨hk.1.2, hk.2⟩)) hg hat); have n2_ := Aside0.mk (hb); have n3_ := Aside0.mk ((show Kd.C (Kd.int .i64) w28 Ao17 y270.length y270 from by rw [Ny270.out]; exact Kd.C_take (m := (x9_4 : Int).toNat) ((Kd.R_reads' (Kd.R_after (ok := (fun k_ => some k_ ≠ (v280 : Value).ownBlock)) (by (with_reducible repeat (first | apply Kd.R_alloc | apply Kd.R_drewN | apply Kd.R_drew)); exact Kd.R_mono HO_5.out (fun _ hk => ⟨hk.2, hk.1⟩)) hg hat)).2.2) KL18.out)); have n4_ := Aside0.mk ((show Kd.C (Kd.int .i64) w28 A26 y275.length y275 from by rw [Ny275.out, KA26.out]; exact Kd.C_drop (m := (x9_4 : Int).toNat) (c := co17) ((Kd.R_reads' (Kd.R_after (ok := (fun k_ => some k_ ≠ (v280 : Value).ownBlock)) (by (with_reducible repeat (first | apply Kd.R_alloc | apply Kd.R_drewN | apply Kd.R_drew)); exact Kd.R_mono HO_5.out (fun _ hk => ⟨hk.2, hk.1⟩)) hg hat)).2.2) KL26.out ((Kd.R_reads' (Kd.R_after (ok := (fun k_ => some k_ ≠ (v280 : Value).ownBlock)) (by (with_reducible repeat (first | apply Kd.R_alloc | apply Kd.R_drewN | apply Kd.R_drew)); exact Kd.R_mono HO_5.out (fun _ hk => ⟨hk.2, hk.1⟩)) hg hat)).2.1))); have n5_ := Aside0.mk (ho); clear HO_5; clear HO281; clear HB; clear HR273; clear HR278; clear HO_8; have HO_5 := n0_; have HO281 := n1_; have HB := n2_; have HR273 := n3_; have HR278 := n4_; have HO284 := n5_; clear n0_ n1_ n2_ n3_ n4_ n5_; clear ho hb hg hat))
                   go_roundg k5
                   case measure => have := HK1.out; have := HJ8.out; have := HJ11.out; have := HK4.out; have := HK5.out; omega
                   case rel => exact ⟨(t279), (y282), (a1), zE1, H', ⟨by have := HK1.out; have := HJ8.out; have := HJ11.out; have := HK4.out; have := HK5.out; omega⟩, ⟨by (with_reducible repeat (first | apply Kd.R_alloc | apply Kd.R_drewN | apply Kd.R_drew)); exact Kd.R_mono HO281.out (fun _ hk => hk.2)⟩, ⟨by (with_reducible repeat (first | apply Kd.R_alloc | apply Kd.R_drewN | apply Kd.R_drew)); exact Kd.R_mono HO284.out (fun _ hk => hk.2)⟩, ⟨zB HB.out⟩⟩
                  ·rw [if_neg c25] at H
                   exact absurd H (by simp)
                 ·rw [if_neg c23] at H
                  exact absurd H (by simp)
                ·rw [if_neg c22] at H
                 exact absurd H (by simp)
            ·rw [if_neg c16] at H
             exact absurd H (by simp)
           ·rw [if_neg c15] at H
            exact absurd H (by simp)
          ·rw [if_neg c14] at H
           have c14b0 : decide (1 < (x5_4.length : Int)) = false := decide_eq_false c14
           have c14b1 : decide (1 < x5_4.length) = false := decide_eq_false (by omega)
           clear c14
           obtain rfl := Option.some.inj H
           obtain ⟨Ao29, co29, eo29⟩ := Kd.R_slice HO_5.out
           subst eo29
           go_wp2
           go_ret
           exact ⟨_, zF, by (with_reducible repeat (first | apply Kd.R_alloc | apply Kd.R_drewN | apply Kd.R_drew)); exact Kd.R_mono HO_8.out (fun _ hk => trivial), zB HB.out⟩
def spec_beBest.l0 : Nat → Int → List Int → Int → Int → Option (Int)
 | 0, _, _, _, _ => none
 | k + 1, x5, x16, x17, x18 => if x18 < x17 then (if 0 ≤ x18 then (if x18 < (x16.length : Int) then (spec_beBest.l0 k (wrap64 (x5 + (rd x16 x18))) x16 x17 (wrap64 (x18 + 1))) else (none)) else (none)) else (some x5)
def spec_beBest.f (k : Nat) (l0 : List Int) (a1 : Int) : Option (Int) := if (l0.length : Int) = 1 then (if 0 < (l0.length : Int) then (some (rd l0 0)) else (none)) else ((spec_beMerge.f k l0 a1).bind fun t286 => (spec_beBest.l0 k 0 t286 (t286.length : Int) 0))
theorem spec_beBest.mono_l : ∀ k, (∀ y0 y1 y2 y3, LeO (spec_beBest.l0 k y0 y1 y2 y3) (spec_beBest.l0 (k + 1) y0 y1 y2 y3))
 | 0 => fun _ _ _ _ r h => by simp [spec_beBest.l0] at h
 | k + 1 => by
  have ih0 := spec_beBest.mono_l k
  ·intro y0 y1 y2 y3
   unfold spec_beBest.l0
   repeat' first
   | (with_reducible first | exact ih0 _ _ _ _ | exact spec_beMerge.mono _ _ _ | exact LeO.refl _ | exact LeO.none _ | refine LeO.ite ?_ ?_ | refine LeO.bind ?_ (fun _ => ?_))
   | exact ih0 _ _ _ _
   | exact spec_beMerge.mono _ _ _
   | exact LeO.none _
   | refine LeO.ite ?_ ?_
   | refine LeO.bind ?_ (fun _ => ?_)
theorem spec_beBest.mono : ∀ a0 a1 k, LeO (spec_beBest.f k a0 a1) (spec_beBest.f (k + 1) a0 a1) := by
 intro a0 a1 k
 have ih0 := spec_beBest.mono_l k
 unfold spec_beBest.f
 repeat' first
   | (with_reducible first | exact ih0 _ _ _ _ | exact spec_beMerge.mono _ _ _ | exact LeO.refl _ | exact LeO.none _ | refine LeO.ite ?_ ?_ | refine LeO.bind ?_ (fun _ => ?_))
   | exact ih0 _ _ _ _
   | exact spec_beMerge.mono _ _ _
   | exact LeO.none _
   | refine LeO.ite ?_ ?_
   | refine LeO.bind ?_ (fun _ => ?_)
theorem spec_beBest.calls (k : Nat) (A0 : Option Addr) (c0 : Nat) (l0 : List Int) (a1 : Int) (r : Int) (w : World) (hr0 : Kd.C (Kd.int .i64) w A0 l0.length l0) (hc0 : l0.length ≤ c0) (h : spec_beBest.f k l0 a1 = some r) :
  Calls Tryz.prog 134 #[.slice A0 l0.length c0, .int .i64 a1] w fun e w' => e = .returned (.int .i64 r) ∧ Below w.heap.size w w' := by
 have HR0 := Aside0.mk hr0
 have HC0 := Aside0.mk hc0
 clear hr0 hc0
 have HB := Aside0.mk (Below.refl w.heap.size w)
 have H : (if (l0.length : Int) = 1 then (if 0 < (l0.length : Int) then (some (rd l0 0)) else (none)) else ((spec_beMerge.f k l0 a1).bind fun t286 => (spec_beBest.l0 k 0 t286 (t286.length : Int) 0))) = some r := h
 clear h
 by_cases c3 : (l0.length : Int) = 1
 ·rw [if_pos c3] at H
  have c3b0 : ((l0.length : Int) == 1) = true := beq_iff_eq.mpr c3
  have c3b1 : ((l0.length : Int) != 1) = false := bne_eq_false_iff_eq.mpr c3
  clear c3
  by_cases c4 : 0 < (l0.length : Int)
  ·rw [if_pos c4] at H
   have c4b0 : decide (0 < (l0.length : Int)) = true := decide_eq_true c4
   have c4b1 : decide (0 < l0.length) = true := decide_eq_true (by omega)
   clear c4
   obtain rfl := Option.some.inj H
   have p285 : 0 ≤ (0 : Int) := (by omega)
   have q285 : 0 < (l0.length : Int) := zD
   obtain ⟨ad285, e285, hx285_0⟩ := Kd.at_int HR0.out 0 p285 q285
   cases e285
   have qi285 : (0 < l0.length) = True := eq_true (by omega)
   (try rw [show ((0 : Int)).toNat = 0 from rfl] at hx285_0)
   (try rw [Addr.add_zero'] at hx285_0)
   replace p285 := eq_true p285
   replace q285 := eq_true q285
   go_enter Tryz.func134, Tryz.ntmps134
   go_wp2
   go_ret
   exact ⟨zF, zB HB.out⟩
  ·rw [if_neg c4] at H
   exact absurd H (by simp)
 ·rw [if_neg c3] at H
  have c3b0 : ((l0.length : Int) == 1) = false := beq_eq_false_iff_ne.mpr c3
  have c3b1 : ((l0.length : Int) != 1) = true := bne_iff_ne.mpr c3
  replace H := Option.bind_eq_some_iff.mp H
  obtain ⟨t286, A50, H⟩ := H
  (try dsimp only at H)
  have A5 := Aside0.mk A50
  clear A50
  have H' := Aside0.mk H
  clear H
  go_enter Tryz.func134, Tryz.ntmps134
  go_wp2_with (first | ((with_reducible refine gate_callee (f := 174) rfl ?_); refine goesL_ (some 16) rfl rfl Tryz.func174 (by kernel_rfl) rfl #[.slice A0 l0.length c0, .int .i64 a1] rfl (by (try simp only [List.map_toArray, List.map_cons, List.map_nil]); first | done | rfl | (simp only [List.length_drop, List.length_take]; rfl)) ?_; (with_reducible refine (spec_beMerge.calls k _ _ l0 a1 t286 _ ?side1 ?side2 A5.out).mono ?_); (case side1 => exact zC HR0.out); (case side2 => exact HC0.out); rintro e w6 ⟨v287, rfl, ho0, hb⟩; refine ⟨_, rfl, ?_⟩; have n0_ := Aside0.mk (Kd.R_lower ho0 (below_size (zB HB.out))); have n1_ := Aside0.mk (below_step (zB HB.out) hb); clear HB; have HO288 := n0_; have HB := n1_; clear n0_ n1_; (try clear hb); (try clear hb2); (try clear hk); (try clear hi); (try clear ho0); obtain ⟨Ao7, co7, eo7⟩ := Kd.R_slice HO288.out; subst eo7))
  go_loopg [5, 18] k (fun kq v5 v18 w' => ∃ (x5_1 : Int) (x18_1 : Int), v5 = .int .i64 x5_1 ∧ v18 = .int .i64 x18_1 ∧ Aside0 (spec_beBest.l0 kq x5_1 t286 (t286.length : Int) x18_1 = some r) ∧ Aside0 (kq ≤ k) ∧ Aside0 (Kd.R (Kd.int .i64) 3 w' w.heap.size (fun _ => True) (.slice Ao7 t286.length co7) t286) ∧ Aside0 (Below w.heap.size w w'))
  case atStart => exact ⟨(0), (0), zE1, zE1, H', ⟨Nat.le_refl _⟩, ⟨zR HO288.out⟩, ⟨zB HB.out⟩⟩
  case round =>
   clear H'
   try clear c1
   try clear p2
   try clear q2
   try clear hx2
   try clear qi2
   try clear c3
   try clear c3b0
   try clear c3b1
   try clear c4
   try clear c4b0
   try clear c4b1
   try clear hx285_0
   try clear p285
   try clear q285
   obtain ⟨x5_1, x18_1, rfl, rfl, HA, HK1, HO_16, HB⟩ := hrel
   cases gk with
   | zero => exact absurd HA.out (by simp [spec_beBest.l0])
   | succ k1 =>
    have H := HA.out
    clear HA
    simp only [spec_beBest.l0] at H
    by_cases c8 : x18_1 < (t286.length : Int)
    ·rw [if_pos c8] at H
     have c8b0 : decide (x18_1 < (t286.length : Int)) = true := decide_eq_true c8
     clear c8
     by_cases c9 : 0 ≤ x18_1
     ·rw [if_pos c9] at H
      have c9b0 : decide (0 ≤ x18_1) = true := decide_eq_true c9
      clear c9
      by_cases c10 : x18_1 < (t286.length : Int)
      ·rw [if_pos c10] at H
       have c10b0 : decide (x18_1 < (t286.length : Int)) = true := decide_eq_true c10
       clear c10
       have H' := Aside0.mk H
       clear H
       have p289 : 0 ≤ (x18_1 : Int) := zD
       have q289 : x18_1 < (t286.length : Int) := zD
       obtain ⟨ad289, e289, hx289_0⟩ := Kd.at_int (Kd.R_reads' HO_16.out).2.2 x18_1 p289 q289
       cases e289
       replace p289 := eq_true p289
       replace q289 := eq_true q289
       go_wp2
       go_roundg k1
       case measure => have := HK1.out; omega
       case rel => exact ⟨(wrap64 (x5_1 + (rd t286 x18_1))), (wrap64 (x18_1 + 1)), zE1, zE1, H', ⟨by have := HK1.out; omega⟩, ⟨zR HO_16.out⟩, ⟨zB HB.out⟩⟩
      ·rw [if_neg c10] at H
       exact absurd H (by simp)
     ·rw [if_neg c9] at H
      exact absurd H (by simp)
    ·rw [if_neg c8] at H
     have c8b0 : decide (x18_1 < (t286.length : Int)) = false := decide_eq_false c8
     clear c8
     obtain rfl := Option.some.inj H
     go_wp2
     go_ret
     exact ⟨zF, zB HB.out⟩
end Go.Proofs.YtmanjfdchhipmaaGreatDoor.XFnBestWithin
