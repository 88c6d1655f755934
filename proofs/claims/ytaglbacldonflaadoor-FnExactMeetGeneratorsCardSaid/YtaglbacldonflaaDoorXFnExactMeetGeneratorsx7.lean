-- Written by a program of this session (wip/xprint.py), which follows the kit's print; no kit file.
import Derived.Test.YtaglbacldonflaaDoorXFnExactMeetGeneratorsx0
import Derived.Test.YtaglbacldonflaaDoorXFnExactMeetGeneratorsx6
namespace Go.Proofs.YtaglbacldonflaaDoor.XFnExactMeetGenerators
open Go.RowKit Go.Proofs.YtaglbacldonflaaDoor.Hand Go.Proofs.YtaglbacldonflaaDoorW.PrintWords Go.Proofs.YtaglbacldonflaaDoorW.PrintLast Go.Proofs.YtaglbacldonflaaDoorW.PrintMore
attribute [local go_sem] max2_int min2_int max_two min_two max_three min_three max_four min_four   -- for this text's walks alone
set_option linter.unusedVariables false
set_option linter.unusedSimpArgs false

/-! ### impl_readings: function 95 -/
mutual
def impl_readings.l0 : Nat → List ByteArray → ByteArray → List Int → Int → Option (List Int)
  | 0, _, _, _, _ => none
  | k + 1, x0, x1, x5, x6 => if x6 ≤ (x1.size : Int) then (if 0 ≤ (wrap64 ((x1.size : Int) - x6)) then (if (wrap64 ((x1.size : Int) - x6)) ≤ (x1.size : Int) then (impl_readings.l1 k x0 x1 x5 x6 (x1.extract ((wrap64 ((x1.size : Int) - x6)) : Int).toNat x1.size) x0 (x0.length : Int) 0) else (none)) else (none)) else (some x5)
def impl_readings.l1 : Nat → List ByteArray → ByteArray → List Int → Int → ByteArray → List ByteArray → Int → Int → Option (List Int)
  | 0, _, _, _, _, _, _, _, _ => none
  | k + 1, x0, x1, x5, x6, x7, x28, x29, x30 => if x30 < x29 then (if 0 ≤ x30 then (if x30 < (x28.length : Int) then ((strings_HasPrefix.f x7 (rdOf ByteArray.empty x28 x30)).bind fun t258 => (if t258 = true then (if 0 ≤ x6 then (if x6 < (x5.length : Int) then (if 0 ≤ (wrap64 (x6 - ((rdOf ByteArray.empty x28 x30).size : Int))) then (if (wrap64 (x6 - ((rdOf ByteArray.empty x28 x30).size : Int))) < (x5.length : Int) then (impl_readings.l1 k x0 x1 (x5.set (x6 : Int).toNat (wrap64 ((rd x5 x6) + (rd x5 (wrap64 (x6 - ((rdOf ByteArray.empty x28 x30).size : Int))))))) x6 x7 x28 x29 (wrap64 (x30 + 1))) else (none)) else (none)) else (none)) else (none)) else (impl_readings.l1 k x0 x1 x5 x6 x7 x28 x29 (wrap64 (x30 + 1))))) else (none)) else (none)) else (impl_readings.l0 k x0 x1 x5 (wrap64 (x6 + 1)))
end
def impl_readings.f (k : Nat) (l0 : List ByteArray) (a1 : ByteArray) : Option (List Int) := if 0 ≤ (wrap64 ((a1.size : Int) + 1)) then (if (wrap64 ((a1.size : Int) + 1) : Int).toNat ≤ 35184372088832 then ((some (List.replicate (wrap64 ((a1.size : Int) + 1) : Int).toNat 0 : List Int)).bind fun y253 => (if 0 < (y253.length : Int) then (impl_readings.l0 k l0 a1 (y253.set (0 : Int).toNat 1) 1) else (none))) else (none)) else (none)
theorem impl_readings.mono_l : ∀ k, (∀ y0 y1 y2 y3, LeO (impl_readings.l0 k y0 y1 y2 y3) (impl_readings.l0 (k + 1) y0 y1 y2 y3)) ∧ (∀ y0 y1 y2 y3 y4 y5 y6 y7, LeO (impl_readings.l1 k y0 y1 y2 y3 y4 y5 y6 y7) (impl_readings.l1 (k + 1) y0 y1 y2 y3 y4 y5 y6 y7))
  | 0 => ⟨fun _ _ _ _ r h => by simp [impl_readings.l0] at h, fun _ _ _ _ _ _ _ _ r h => by simp [impl_readings.l1] at h⟩
  | k + 1 => by
    obtain ⟨ih0, ih1⟩ := impl_readings.mono_l k
    refine ⟨?_, ?_⟩
    · intro y0 y1 y2 y3
      unfold impl_readings.l0
      repeat' first
      | (with_reducible exact ih0 _ _ _ _)
      | (with_reducible exact ih1 _ _ _ _ _ _ _ _)
      | (with_reducible exact LeO.refl _)
      | (with_reducible exact LeO.none _)
      | (with_reducible refine LeO.ite ?_ ?_)
      | (with_reducible refine LeO.bind ?_ (fun _ => ?_))
      | exact ih0 _ _ _ _
      | exact ih1 _ _ _ _ _ _ _ _
      | exact LeO.none _
      | refine LeO.ite ?_ ?_
      | refine LeO.bind ?_ (fun _ => ?_)
    · intro y0 y1 y2 y3 y4 y5 y6 y7
      unfold impl_readings.l1
      repeat' first
      | (with_reducible exact ih0 _ _ _ _)
      | (with_reducible exact ih1 _ _ _ _ _ _ _ _)
      | (with_reducible exact LeO.refl _)
      | (with_reducible exact LeO.none _)
      | (with_reducible refine LeO.ite ?_ ?_)
      | (with_reducible refine LeO.bind ?_ (fun _ => ?_))
      | exact ih0 _ _ _ _
      | exact ih1 _ _ _ _ _ _ _ _
      | exact LeO.none _
      | refine LeO.ite ?_ ?_
      | refine LeO.bind ?_ (fun _ => ?_)
theorem impl_readings.mono : ∀ a0 a1 k, LeO (impl_readings.f k a0 a1) (impl_readings.f (k + 1) a0 a1) := by
  intro a0 a1 k
  obtain ⟨ih0, ih1⟩ := impl_readings.mono_l k
  unfold impl_readings.f
  repeat' first
      | (with_reducible exact ih0 _ _ _ _)
      | (with_reducible exact ih1 _ _ _ _ _ _ _ _)
      | (with_reducible exact LeO.refl _)
      | (with_reducible exact LeO.none _)
      | (with_reducible refine LeO.ite ?_ ?_)
      | (with_reducible refine LeO.bind ?_ (fun _ => ?_))
      | exact ih0 _ _ _ _
      | exact ih1 _ _ _ _ _ _ _ _
      | exact LeO.none _
      | refine LeO.ite ?_ ?_
      | refine LeO.bind ?_ (fun _ => ?_)
def impl_readings.T11 : Bool × List (List Nat × List Nat) := (true, [([], []), ([], []), ([0, 1], [0, 1]), ([2], [2]), ([], []), ([], []), ([], []), ([6], [6]), ([5, 7], [5, 7]), ([4, 8], [4, 8]), ([9], [9]), ([3, 10], [3, 10]), ([0, 1, 0, 1, 2, 3, 4, 5, 6, 7, 8, 9, 10, 11], [0, 1]), ([12, 11, 0, 1, 2, 3, 4, 5, 6, 7, 8, 9, 10, 11], [11, 12])])
def impl_readings.B11 : List Nat := [0, 0, 3, 7, 0, 0, 0, 64, 224, 496, 1008, 2047, 4095, 8191]
theorem impl_readings.tab11 : rtab .any (opsOf Tryd.f95 11) = impl_readings.T11 := by kernel_rfl
theorem impl_readings.bits11 : waitsOk impl_readings.T11.2 impl_readings.B11 = true := by kernel_rfl
set_option maxHeartbeats 8000000 in
set_option maxRecDepth 100000 in
theorem impl_readings.calls (k : Nat) (A0 : Option Addr) (c0 : Nat) (l0 : List ByteArray) (a1 : ByteArray) (r : List Int) (w : World) (hr0 : Kd.C Kd.string w A0 l0.length l0) (hc0 : l0.length ≤ c0) (h : impl_readings.f k l0 a1 = some r) :
    Calls Tryd.prog 95 #[.slice A0 l0.length c0, .string a1] w fun e w' => ∃ v0_ : Value, e = .returned (v0_) ∧ Kd.R (Kd.int .i64) 3 w' w.heap.size (fun _ => True) v0_ r ∧ Below w.heap.size w w' := by
  have HR0 := Aside0.mk hr0
  have HC0 := Aside0.mk hc0
  clear hr0 hc0
  have HB := Aside0.mk (Below.refl w.heap.size w)
  have H : (if 0 ≤ (wrap64 ((a1.size : Int) + 1)) then (if (wrap64 ((a1.size : Int) + 1) : Int).toNat ≤ 35184372088832 then ((some (List.replicate (wrap64 ((a1.size : Int) + 1) : Int).toNat 0 : List Int)).bind fun y253 => (if 0 < (y253.length : Int) then (impl_readings.l0 k l0 a1 (y253.set (0 : Int).toNat 1) 1) else (none))) else (none)) else (none)) = some r := h
  clear h
  obtain ⟨ji3, hji3⟩ : ∃ j_ : Int, (wrap64 ((a1.size : Int) + 1)) = j_ := ⟨_, rfl⟩
  replace H : (if 0 ≤ (ji3) then (if (ji3 : Int).toNat ≤ 35184372088832 then ((some (List.replicate (ji3 : Int).toNat 0 : List Int)).bind fun y253 => (if 0 < (y253.length : Int) then (impl_readings.l0 k l0 a1 (y253.set (0 : Int).toNat 1) 1) else (none))) else (none)) else (none)) = some r := by first | (rw [hji3] at H; exact H) | (simp only [hji3] at H ⊢; exact H)
  have hji3w : (IntKind.i64.wrap ((a1.size : Int) + 1)) = ji3 := (i64_w _).trans hji3
  by_cases c4 : 0 ≤ (ji3)
  · rw [if_pos c4] at H
    have c4b0 := eq_true c4
    have c4b1 : decide (0 ≤ (ji3)) = true := decide_eq_true c4
    clear c4
    by_cases c5 : (ji3 : Int).toNat ≤ 35184372088832
    · rw [if_pos c5] at H
      have c5b0 := eq_true c5
      have c5b1 : decide ((ji3 : Int).toNat ≤ 35184372088832) = true := decide_eq_true c5
      clear c5
      obtain ⟨y253, hy253⟩ : ∃ y_ : List Int, y_ = (List.replicate (ji3 : Int).toNat 0) := ⟨_, rfl⟩
      replace H : (if 0 < (y253.length : Int) then (impl_readings.l0 k l0 a1 (y253.set (0 : Int).toNat 1) 1) else (none)) = some r := by first | (rw [hy253]; with_reducible exact H) | (have H2_ := (Option.bind_some _ _).symm.trans H; rw [hy253]; with_reducible exact H2_) | (have H2_ := (Option.bind_some _ _).symm.trans H; with_reducible exact H2_) | with_reducible exact H | (rw [hy253]; exact H) | exact H
      have Ny253 := Aside0.mk hy253
      clear hy253
      by_cases c6 : 0 < (y253.length : Int)
      · rw [if_pos c6] at H
        have c6b0 : decide (0 < (y253.length : Int)) = true := decide_eq_true c6
        have c6b1 : decide (0 < y253.length) = true := decide_eq_true (by omega)
        clear c6
        obtain ⟨y256, hy256⟩ : ∃ y_ : List Int, y_ = (y253.set (0 : Int).toNat 1) := ⟨_, rfl⟩
        replace H : (impl_readings.l0 k l0 a1 y256 1) = some r := by first | (rw [hy256]; with_reducible exact H) | (have H2_ := (Option.bind_some _ _).symm.trans H; rw [hy256]; with_reducible exact H2_) | (have H2_ := (Option.bind_some _ _).symm.trans H; with_reducible exact H2_) | with_reducible exact H | (rw [hy256]; exact H) | exact H
        have Ny256 := Aside0.mk hy256
        clear hy256
        have H' := Aside0.mk H
        clear H
        go_enter Tryd.func95, Tryd.ntmps95
        go_wp2_with (first | ((with_reducible refine gate_dst (N := 13) rfl ?_); refine Kd.R_make (Kd.int .i64) _ 3 rfl (N := 13) rfl 28 _ _ rfl ji3 rfl rfl Tryd.underlying28 (.int .i64 0) 8 info3 rfl (by decide) (by omega) 0 (ok := fun _ => True) (okp := fun _ => True) rfl (fun _ hk => hk) trivial (of_decide_eq_true (by first | (with_reducible assumption) | assumption)) (Nat.le_trans (Nat.mul_le_mul_right _ (of_decide_eq_true (by first | (with_reducible assumption) | assumption) : ji3.toNat ≤ 35184372088832)) (by omega)) (Below.refl _ _) (Nat.le_refl _) ?_; intro v254 w8 ho9 hb hg_ hnew_; clear hg_ hnew_; (first | rw [← Ny253.out] at ho9 | (simp only [Int.reduceToNat] at ho9; rw [← Ny253.out] at ho9)); have n0_ := Aside0.mk (Kd.R_lower ho9 (below_size (by repeat (first | (with_reducible first | exact HB.out | apply below_alloc | apply pw_below_drewN | apply below_drew1) | exact HB.out)))); have n1_ := Aside0.mk (below_step (by repeat (first | (with_reducible first | exact HB.out | apply below_alloc | apply pw_below_drewN | apply below_drew1) | exact HB.out)) hb); clear HB; have HO255 := n0_; have HB := n1_; clear n0_ n1_; clear hb ho9; have p7 : 0 ≤ (0 : Int) := (by omega); have q7 : (0 : Int) < ((y253.length : Int) : Int) := of_decide_eq_true (by first | (with_reducible assumption) | assumption); have qi7 : (0 < y253.length) = True := eq_true (by omega); obtain ⟨go7, co7, eo7, gb7, gl7, cl7, HG7⟩ := Kd.R_form HO255.out (by omega); (first | cases eo7 | (injection eo7 with ea_ en_ ec_; (first | subst ea_ | (injection ea_ with ea_; subst ea_)); subst ec_; clear en_)); have GB7 := Aside0.mk gb7; have GG7 := Aside0.mk HG7; clear gb7 gl7 HG7; obtain ⟨hx7_0, hf7_0⟩ := Kd.R_celln 0 HO255.out (0 : Int) p7 q7; (try rw [show ((0 : Int)).toNat = 0 from rfl] at hx7_0); (try simp only [Nat.reduceMul, Nat.zero_mul, Nat.zero_add, Nat.reduceAdd] at hx7_0); (try rw [show ((0 : Int)).toNat = 0 from rfl] at hf7_0); (try simp only [Nat.reduceMul, Nat.zero_mul, Nat.zero_add, Nat.reduceAdd] at hf7_0); replace p7 := eq_true p7; replace q7 := eq_true q7; obtain ⟨hy10_, hz10_⟩ := Kd.R_celln 0 HO255.out (0 : Int) (by omega) (of_decide_eq_true (by first | (with_reducible assumption) | assumption)); (try simp only [Int.reduceToNat, Int.toNat_zero, Int.toNat_ofNat, Nat.reduceMul, Nat.zero_mul, Nat.zero_add] at hy10_ hz10_); (try rw [show ((0 : Int)).toNat = 0 from rfl] at hy10_); (try rw [show ((0 : Int)).toNat = 0 from rfl] at hz10_); have HP10 := Kd.R_putg HO255.out (0 : Int) 1) | ((with_reducible refine gate_store (t := 3) (p := 15) rfl ?_); refine store_event (t := 3) (p := 15) (v := ?vo_w11) (w1 := (w8.setCell ⟨go7, (0 : Int).toNat, none⟩ (.int .i64 1))) ?hg ?ho ?hn ?hr ?_; (case ho => rfl); (case hg => rfl); (case hn => rfl); (case hr => first | (go_simp; done) | (go_simp; rfl)); intro w11 hw; have hg : w8.grownBy w11 (some go7) := (by rw [hw]; exact HP10.2); have hp_ : Kd.R (Kd.int .i64) 3 w11 w.heap.size (fun _ => True) (.slice (some ⟨go7, 0, none⟩) y253.length co7) y256 := (by rw [hw, Ny256.out]; exact HP10.1); clear HP10; have n0_ := Aside0.mk (hp_); have n1_ := Aside0.mk ((by rw [hw]; exact below_set (HB.out) GB7.out : Below w.heap.size w w11)); clear HO255; clear HB; have HO255 := n0_; have HB := n1_; clear n0_ n1_; clear hg hw hp_))
        go_loopg [6] k (fun kq v6 w' => ∃ (x5_1 : List Int) (x6_1 : Int), v6 = .int .i64 x6_1 ∧ Aside0 (impl_readings.l0 kq l0 a1 x5_1 x6_1 = some r) ∧ Aside0 (kq ≤ k) ∧ Aside0 (Kd.R (Kd.int .i64) 3 w' w.heap.size (fun _ => True) (.slice (some ⟨go7, 0, none⟩) y253.length co7) x5_1) ∧ Aside0 (Below w.heap.size w w'))
        case atStart => exact ⟨(y256), (1), (by first | rfl | (simp; done) | (simp [*]; done) | (simp only [IntWalk.i64_left]; done) | (simp [IntWalk.i64_left]; done) | (simp [*, IntWalk.i64_left]; done)), H', ⟨Nat.le_refl _⟩, ⟨by (with_reducible repeat (first | apply Kd.R_alloc | apply Kd.R_drewN | apply Kd.R_drew)); exact HO255.out⟩, ⟨by repeat (first | (with_reducible first | exact HB.out | apply below_alloc | apply pw_below_drewN | apply below_drew1) | exact HB.out)⟩⟩
        case round =>
          clear H'
          try clear p2
          try clear c4
          try clear c4b0
          try clear c4b1
          try clear c5
          try clear c5b0
          try clear c5b1
          try clear c6
          try clear c6b0
          try clear c6b1
          try clear p6
          try clear p7
          try clear q7
          try clear hx7
          try clear qi7
          try clear hf7
          try clear c9
          try clear hx7_0
          try clear p7
          try clear q7
          obtain ⟨x5_1, x6_1, rfl, HA, HK1, HO_5, HB⟩ := hrel
          have hl5_1 := (Kd.R_reads' HO_5.out).1
          rw [hl5_1] at HO_5
          (try simp only [hl5_1])
          cases gk with
          | zero => exact absurd HA.out (by simp [impl_readings.l0])
          | succ k1 =>
            have H := HA.out
            clear HA
            simp only [impl_readings.l0] at H
            by_cases c12 : x6_1 ≤ (a1.size : Int)
            · rw [if_pos c12] at H
              have c12b0 : decide (x6_1 ≤ (a1.size : Int)) = true := decide_eq_true c12
              (try (have c12h0 := c12b0; simp only [hl5_1] at c12h0))
              clear c12
              obtain ⟨ji13, hji13⟩ : ∃ j_ : Int, (wrap64 ((a1.size : Int) - x6_1)) = j_ := ⟨_, rfl⟩
              replace H : (if 0 ≤ (ji13) then (if (ji13) ≤ (a1.size : Int) then (impl_readings.l1 k1 l0 a1 x5_1 x6_1 (a1.extract ((ji13) : Int).toNat a1.size) l0 (l0.length : Int) 0) else (none)) else (none)) = some r := by first | (rw [hji13] at H; exact H) | (simp only [hji13] at H ⊢; exact H)
              have hji13w : (IntKind.i64.wrap ((a1.size : Int) - x6_1)) = ji13 := (i64_w _).trans hji13
              by_cases c14 : 0 ≤ (ji13)
              · rw [if_pos c14] at H
                have c14b0 := eq_true c14
                have c14b1 : decide (0 ≤ (ji13)) = true := decide_eq_true c14
                clear c14
                by_cases c15 : (ji13) ≤ (a1.size : Int)
                · rw [if_pos c15] at H
                  have c15b0 := eq_true c15
                  have c15b1 : decide ((ji13) ≤ (a1.size : Int)) = true := decide_eq_true c15
                  clear c15
                  have H' := Aside0.mk H
                  clear H
                  go_wp2
                  go_loopg [30] k1 (fun kq v30 w' => ∃ (x5_2 : List Int) (x30_2 : Int), v30 = .int .i64 x30_2 ∧ Aside0 (impl_readings.l1 kq l0 a1 x5_2 x6_1 (a1.extract ((ji13) : Int).toNat a1.size) l0 (l0.length : Int) x30_2 = some r) ∧ Aside0 (kq ≤ k1) ∧ Aside0 (Kd.R (Kd.int .i64) 3 w' w.heap.size (fun _ => True) (.slice (some ⟨go7, 0, none⟩) x5_1.length co7) x5_2) ∧ Aside0 (Below w.heap.size w w'))
                  case atStart => exact ⟨(x5_1), (0), (by first | rfl | (simp; done) | (simp [*]; done) | (simp only [IntWalk.i64_left]; done) | (simp [IntWalk.i64_left]; done) | (simp [*, IntWalk.i64_left]; done)), H', ⟨Nat.le_refl _⟩, ⟨by (try simp only [hl5_1]); (with_reducible repeat (first | apply Kd.R_alloc | apply Kd.R_drewN | apply Kd.R_drew)); exact HO_5.out⟩, ⟨by repeat (first | (with_reducible first | exact HB.out | apply below_alloc | apply pw_below_drewN | apply below_drew1) | exact HB.out)⟩⟩
                  case round =>
                    clear H'
                    try clear c1
                    try clear p2
                    try clear c4
                    try clear c4b0
                    try clear c4b1
                    try clear c5
                    try clear c5b0
                    try clear c5b1
                    try clear c6
                    try clear c6b0
                    try clear c6b1
                    try clear p6
                    try clear p7
                    try clear q7
                    try clear hx7
                    try clear qi7
                    try clear hf7
                    try clear c9
                    try clear c12
                    try clear c12b0
                    try clear c14
                    try clear c14b0
                    try clear c14b1
                    try clear c15
                    try clear c15b0
                    try clear c15b1
                    try clear hx7_0
                    try clear p2
                    try clear p6
                    try clear p7
                    try clear q7
                    obtain ⟨x5_2, x30_2, rfl, HA, HK2, HO_5, HB⟩ := hrel
                    have hl5_2 := (Kd.R_reads' HO_5.out).1
                    rw [hl5_2] at HO_5
                    (try simp only [hl5_2])
                    cases gk with
                    | zero => exact absurd HA.out (by simp [impl_readings.l1])
                    | succ k2 =>
                      have H := HA.out
                      clear HA
                      simp only [impl_readings.l1] at H
                      by_cases c16 : x30_2 < (l0.length : Int)
                      · rw [if_pos c16] at H
                        have c16b0 : decide (x30_2 < (l0.length : Int)) = true := decide_eq_true c16
                        (try (have c16h0 := c16b0; simp only [hl5_1, hl5_2] at c16h0))
                        clear c16
                        by_cases c17 : 0 ≤ x30_2
                        · rw [if_pos c17] at H
                          have c17b0 : decide (0 ≤ x30_2) = true := decide_eq_true c17
                          (try (have c17h0 := c17b0; simp only [hl5_1, hl5_2] at c17h0))
                          clear c17
                          by_cases c18 : x30_2 < (l0.length : Int)
                          · rw [if_pos c18] at H
                            have c18b0 : decide (x30_2 < (l0.length : Int)) = true := decide_eq_true c18
                            (try (have c18h0 := c18b0; simp only [hl5_1, hl5_2] at c18h0))
                            clear c18
                            replace H := Option.bind_eq_some_iff.mp H
                            obtain ⟨t258, A190, H⟩ := H
                            replace H : (if t258 = true then (if 0 ≤ x6_1 then (if x6_1 < (x5_2.length : Int) then (if 0 ≤ (wrap64 (x6_1 - ((rdOf ByteArray.empty l0 x30_2).size : Int))) then (if (wrap64 (x6_1 - ((rdOf ByteArray.empty l0 x30_2).size : Int))) < (x5_2.length : Int) then (impl_readings.l1 k2 l0 a1 (x5_2.set (x6_1 : Int).toNat (wrap64 ((rd x5_2 x6_1) + (rd x5_2 (wrap64 (x6_1 - ((rdOf ByteArray.empty l0 x30_2).size : Int))))))) x6_1 (a1.extract ((ji13) : Int).toNat a1.size) l0 (l0.length : Int) (wrap64 (x30_2 + 1))) else (none)) else (none)) else (none)) else (none)) else (impl_readings.l1 k2 l0 a1 x5_2 x6_1 (a1.extract ((ji13) : Int).toNat a1.size) l0 (l0.length : Int) (wrap64 (x30_2 + 1)))) = some r := H
                            have A19 := Aside0.mk A190
                            clear A190
                            by_cases c20 : t258 = true
                            · subst c20
                              have H1 : (if 0 ≤ x6_1 then (if x6_1 < (x5_2.length : Int) then (if 0 ≤ (wrap64 (x6_1 - ((rdOf ByteArray.empty l0 x30_2).size : Int))) then (if (wrap64 (x6_1 - ((rdOf ByteArray.empty l0 x30_2).size : Int))) < (x5_2.length : Int) then (impl_readings.l1 k2 l0 a1 (x5_2.set (x6_1 : Int).toNat (wrap64 ((rd x5_2 x6_1) + (rd x5_2 (wrap64 (x6_1 - ((rdOf ByteArray.empty l0 x30_2).size : Int))))))) x6_1 (a1.extract ((ji13) : Int).toNat a1.size) l0 (l0.length : Int) (wrap64 (x30_2 + 1))) else (none)) else (none)) else (none)) else (none)) = some r := by rw [if_pos rfl] at H; exact H
                              clear H
                              have H := H1
                              clear H1
                              by_cases c21 : 0 ≤ x6_1
                              · rw [if_pos c21] at H
                                have c21b0 : decide (0 ≤ x6_1) = true := decide_eq_true c21
                                (try (have c21h0 := c21b0; simp only [hl5_1, hl5_2] at c21h0))
                                clear c21
                                by_cases c22 : x6_1 < (x5_2.length : Int)
                                · rw [if_pos c22] at H
                                  have c22b0 : decide (x6_1 < (x5_2.length : Int)) = true := decide_eq_true c22
                                  (try (have c22h0 := c22b0; simp only [hl5_1, hl5_2] at c22h0))
                                  clear c22
                                  obtain ⟨ji23, hji23⟩ : ∃ j_ : Int, (wrap64 (x6_1 - ((rdOf ByteArray.empty l0 x30_2).size : Int))) = j_ := ⟨_, rfl⟩
                                  replace H : (if 0 ≤ (ji23) then (if (ji23) < (x5_2.length : Int) then (impl_readings.l1 k2 l0 a1 (x5_2.set (x6_1 : Int).toNat (wrap64 ((rd x5_2 x6_1) + (rd x5_2 (ji23))))) x6_1 (a1.extract ((ji13) : Int).toNat a1.size) l0 (l0.length : Int) (wrap64 (x30_2 + 1))) else (none)) else (none)) = some r := by first | (rw [hji23] at H; exact H) | (simp only [hji23] at H ⊢; exact H)
                                  (try rw [hji23] at A19)
                                  have hji23w : (IntKind.i64.wrap (x6_1 - ((rdOf ByteArray.empty l0 x30_2).size : Int))) = ji23 := (i64_w _).trans hji23
                                  by_cases c24 : 0 ≤ (ji23)
                                  · rw [if_pos c24] at H
                                    have c24b0 : decide (0 ≤ (ji23)) = true := decide_eq_true c24
                                    (try (have c24h0 := c24b0; simp only [hl5_1, hl5_2] at c24h0))
                                    clear c24
                                    by_cases c25 : (ji23) < (x5_2.length : Int)
                                    · rw [if_pos c25] at H
                                      have c25b0 : decide ((ji23) < (x5_2.length : Int)) = true := decide_eq_true c25
                                      (try (have c25h0 := c25b0; simp only [hl5_1, hl5_2] at c25h0))
                                      clear c25
                                      obtain ⟨y261, hy261⟩ : ∃ y_ : List Int, y_ = (x5_2.set (x6_1 : Int).toNat (wrap64 ((rd x5_2 x6_1) + (rd x5_2 (ji23))))) := ⟨_, rfl⟩
                                      replace H : (impl_readings.l1 k2 l0 a1 y261 x6_1 (a1.extract ((ji13) : Int).toNat a1.size) l0 (l0.length : Int) (wrap64 (x30_2 + 1))) = some r := by first | (rw [hy261]; with_reducible exact H) | (have H2_ := (Option.bind_some _ _).symm.trans H; rw [hy261]; with_reducible exact H2_) | (have H2_ := (Option.bind_some _ _).symm.trans H; with_reducible exact H2_) | with_reducible exact H | (rw [hy261]; exact H) | exact H
                                      have Ny261 := Aside0.mk hy261
                                      clear hy261
                                      have H' := Aside0.mk H
                                      clear H
                                      have p257 : 0 ≤ (x30_2 : Int) := of_decide_eq_true (by first | (with_reducible assumption) | assumption)
                                      have q257 : x30_2 < (l0.length : Int) := of_decide_eq_true (by first | (with_reducible assumption) | assumption)
                                      obtain ⟨ad257, e257, hx257_0⟩ := Kd.at_string HR0.out x30_2 p257 q257
                                      cases e257
                                      replace hx257_0 := (HB.out.cell (World.block_lt_of_cell? w _ hx257_0)).trans hx257_0
                                      replace p257 := eq_true p257
                                      replace q257 := eq_true q257
                                      try go_wp2_with (first | ((with_reducible refine gate_callee (f := 56) rfl ?_); refine goesL_ (some 36) rfl rfl Tryd.func56 (by kernel_rfl) rfl #[.string (a1.extract ((ji13) : Int).toNat a1.size), .string (rdOf ByteArray.empty l0 x30_2)] rfl (by (try simp only [List.map_toArray, List.map_cons, List.map_nil]); first | done | (simp only [hji13]; rfl) | rfl | (simp only [List.length_drop, List.length_take]; rfl)) ?_; (with_reducible refine (strings_HasPrefix.calls (a1.extract ((ji13) : Int).toNat a1.size) (rdOf ByteArray.empty l0 x30_2) true _ A19.out).mono ?_); rintro e w' ⟨rfl, ⟨nd, rfl⟩⟩; refine ⟨_, rfl, ?_⟩; (try (rw [drewN_self wr]; generalize hq_ : World.drewN wr _ = wr; have n0_ : Aside0 (Kd.R (Kd.int .i64) 3 wr w.heap.size (fun _ => True) (.slice (some ⟨go7, 0, none⟩) x5_2.length co7) x5_2) := ⟨by rw [← hq_]; exact (by (with_reducible repeat (first | apply Kd.R_alloc | apply Kd.R_drewN | apply Kd.R_drew)); exact HO_5.out)⟩; have n1_ : Aside0 (Below w.heap.size w wr) := ⟨by rw [← hq_]; exact (by repeat (first | (with_reducible first | exact HB.out | apply below_alloc | apply pw_below_drewN | apply below_drew1) | exact HB.out))⟩; clear HO_5 HB hq_; have HO_5 := n0_; have HB := n1_; clear n0_ n1_))))
                                      have n0_ := Aside0.mk (Kd.R_drew HO_5.out)
                                      have n1_ := Aside0.mk (below_drew1 HB.out)
                                      clear HO_5
                                      clear HB
                                      have HO_5 := n0_
                                      have HB := n1_
                                      clear n0_ n1_
                                      have p259 : 0 ≤ (x6_1 : Int) := of_decide_eq_true (by first | (with_reducible assumption) | assumption)
                                      have q259 : x6_1 < (x5_2.length : Int) := of_decide_eq_true (by first | (with_reducible assumption) | assumption)
                                      obtain ⟨ad259, e259, hx259_0⟩ := Kd.at_int (Kd.R_reads' HO_5.out).2.2 x6_1 p259 q259
                                      obtain rfl : (⟨go7, 0, none⟩ : Addr) = ad259 := (by injection e259)
                                      (first | simp only [add_plain] at hx259_0 | simp only [add_at] at hx259_0 | simp only [Addr.add, Nat.zero_add] at hx259_0 | skip)
                                      replace p259 := eq_true p259
                                      replace q259 := eq_true q259
                                      have p260 : 0 ≤ ((ji23) : Int) := of_decide_eq_true (by first | (with_reducible assumption) | assumption)
                                      have q260 : (ji23) < (x5_2.length : Int) := of_decide_eq_true (by first | (with_reducible assumption) | assumption)
                                      obtain ⟨ad260, e260, hx260_0⟩ := Kd.at_int (Kd.R_reads' HO_5.out).2.2 (ji23) p260 q260
                                      obtain rfl : (⟨go7, 0, none⟩ : Addr) = ad260 := (by injection e260)
                                      (first | simp only [add_plain] at hx260_0 | simp only [add_at] at hx260_0 | simp only [Addr.add, Nat.zero_add] at hx260_0 | skip)
                                      replace p260 := eq_true p260
                                      replace q260 := eq_true q260
                                      have p26 : 0 ≤ (x6_1 : Int) := of_decide_eq_true (by first | (with_reducible assumption) | assumption)
                                      have q26 : (x6_1 : Int) < ((x5_2.length : Int) : Int) := of_decide_eq_true (by first | (with_reducible assumption) | assumption)
                                      obtain ⟨hx26_0, hf26_0⟩ := Kd.R_celln 0 HO_5.out (x6_1 : Int) p26 q26
                                      replace p26 := eq_true p26
                                      replace q26 := eq_true q26
                                      have HP28 := Kd.R_putn HO_5.out (x6_1 : Int) (wrap64 ((rd x5_2 x6_1) + (rd x5_2 (ji23))))
                                      rw [← Ny261.out] at HP28
                                      have HQ28 := Aside0.mk HP28
                                      clear HP28
                                      refine start_ (n := 14) (S := fun w' => w'.cell? ⟨go7, (x6_1).toNat, none⟩ = some (.int .i64 (rd x5_2 x6_1)) ∧ w'.cell? ⟨go7, ((ji23)).toNat, none⟩ = some (.int .i64 (rd x5_2 (ji23)))) (ds := [13]) #[false, false, false, false, false, false, false, false, false, false, false, false, false, false] (by kernel_rfl) rfl rfl ⟨hx259_0, hx260_0⟩ (fun hHeld => ?_); refine with_tabW impl_readings.tab11 impl_readings.bits11 (fun HT_ HW_ => ?_)
                                      generalize wr.drew = w27 at HO_5 HB HQ28 hf26_0 hx259_0 hx260_0 hx26_0 hHeld ⊢
                                      refine pure_ (i := 0) (N := some 37) (v := ?_) (a' := ?_) #[true, false, false, false, false, false, false, false, false, false, false, false, false, false] rfl rfl (any_of HT_.out (by kernel_rfl)) (fun _ _ _ h => h) (Or.inl ⟨by rfl, ?_⟩) ?_ ?_
                                      rotate_left
                                      · intro w'
                                        go_simp
                                        with_reducible rfl
                                      rotate_left
                                      · simp only [Act.put, List.setIfInBounds_toArray, List.set_cons_zero, List.set_cons_succ, i64_w, i32_w]
                                        rfl
                                      refine pure_ (i := 1) (N := some 38) (v := ?_) (a' := ?_) #[true, true, false, false, false, false, false, false, false, false, false, false, false, false] rfl rfl (any_of HT_.out (by kernel_rfl)) (fun _ _ _ h => h) (Or.inl ⟨by rfl, ?_⟩) ?_ ?_
                                      rotate_left
                                      · intro w'
                                        go_simp
                                        with_reducible rfl
                                      rotate_left
                                      · simp only [Act.put, List.setIfInBounds_toArray, List.set_cons_zero, List.set_cons_succ, i64_w, i32_w]
                                        rfl
                                      refine pure_ (i := 2) (N := some 39) (v := ?_) (a' := ?_) #[true, true, true, false, false, false, false, false, false, false, false, false, false, false] rfl rfl (any_of HT_.out (by kernel_rfl)) (fun _ _ _ h => h) (Or.inl ⟨by rfl, ?_⟩) ?_ ?_
                                      rotate_left
                                      · intro w'
                                        go_simp
                                        with_reducible rfl
                                      rotate_left
                                      · simp only [Act.put, List.setIfInBounds_toArray, List.set_cons_zero, List.set_cons_succ, i64_w, i32_w]
                                        rfl
                                      refine pure_ (i := 4) (N := some 41) (v := ?_) (a' := ?_) #[true, true, true, false, true, false, false, false, false, false, false, false, false, false] rfl rfl (any_of HT_.out (by kernel_rfl)) (fun _ _ _ h => h) (Or.inl ⟨by rfl, ?_⟩) ?_ ?_
                                      rotate_left
                                      · intro w'
                                        go_simp
                                        with_reducible rfl
                                      rotate_left
                                      · simp only [Act.put, List.setIfInBounds_toArray, List.set_cons_zero, List.set_cons_succ, i64_w, i32_w]
                                        rfl
                                      refine pure_ (i := 5) (N := some 42) (v := ?_) (a' := ?_) #[true, true, true, false, true, true, false, false, false, false, false, false, false, false] rfl rfl (any_of HT_.out (by kernel_rfl)) (fun _ _ _ h => h) (Or.inl ⟨by rfl, ?_⟩) ?_ ?_
                                      rotate_left
                                      · intro w'
                                        go_simp
                                        with_reducible rfl
                                      rotate_left
                                      · simp only [Act.put, List.setIfInBounds_toArray, List.set_cons_zero, List.set_cons_succ, i64_w, i32_w]
                                        rfl
                                      refine pure_ (i := 6) (N := some 43) (v := ?_) (a' := ?_) #[true, true, true, false, true, true, true, false, false, false, false, false, false, false] rfl rfl (any_of HT_.out (by kernel_rfl)) (fun _ _ _ h => h) (Or.inl ⟨by rfl, ?_⟩) ?_ ?_
                                      rotate_left
                                      · intro w'
                                        go_simp
                                        with_reducible rfl
                                      rotate_left
                                      · simp only [Act.put, List.setIfInBounds_toArray, List.set_cons_zero, List.set_cons_succ, i64_w, i32_w]
                                        rfl
                                      refine pure_ (i := 7) (N := some 44) (v := ?_) (a' := ?_) #[true, true, true, false, true, true, true, true, false, false, false, false, false, false] rfl rfl (any_of HT_.out (by kernel_rfl)) (fun _ _ _ h => h) (Or.inl ⟨by rfl, ?_⟩) ?_ ?_
                                      rotate_left
                                      · intro w'
                                        go_simp
                                        with_reducible rfl
                                      rotate_left
                                      · simp only [Act.put, List.setIfInBounds_toArray, List.set_cons_zero, List.set_cons_succ, i64_w, i32_w]
                                        rfl
                                      refine pure_ (i := 8) (N := some 45) (v := ?_) (a' := ?_) #[true, true, true, false, true, true, true, true, true, false, false, false, false, false] rfl rfl (any_of HT_.out (by kernel_rfl)) (fun _ _ _ h => h) (Or.inl ⟨by rfl, ?_⟩) ?_ ?_
                                      rotate_left
                                      · intro w'
                                        go_simp
                                        with_reducible rfl
                                      rotate_left
                                      · simp only [Act.put, List.setIfInBounds_toArray, List.set_cons_zero, List.set_cons_succ, i64_w, i32_w]
                                        rfl
                                      refine pure_ (i := 9) (N := some 46) (v := ?_) (a' := ?_) #[true, true, true, false, true, true, true, true, true, true, false, false, false, false] rfl rfl (any_of HT_.out (by kernel_rfl)) (fun _ _ _ h => h) (Or.inl ⟨by rfl, ?_⟩) ?_ ?_
                                      rotate_left
                                      · intro w'
                                        go_simp
                                        with_reducible rfl
                                      rotate_left
                                      · simp only [Act.put, List.setIfInBounds_toArray, List.set_cons_zero, List.set_cons_succ, i64_w, i32_w]
                                        rfl
                                      refine take_ (i := 3) (N := some 40) (v := ?_) (a' := ?_) #[true, true, true, true, true, true, true, true, true, true, false, false, false, false] rfl rfl (take_ofW HT_.out HW_.out (by kernel_rfl)) (fun _ _ _ h => h) (Or.inl ⟨by rfl, ?_⟩) hHeld ?_ ?_
                                      rotate_left
                                      · rintro w' ⟨s0, s1⟩
                                        go_simp
                                        with_reducible rfl
                                      rotate_left
                                      · simp only [Act.put, List.setIfInBounds_toArray, List.set_cons_zero, List.set_cons_succ, i64_w, i32_w]
                                        rfl
                                      refine take_ (i := 10) (N := some 47) (v := ?_) (a' := ?_) #[true, true, true, true, true, true, true, true, true, true, true, false, false, false] rfl rfl (take_ofW HT_.out HW_.out (by kernel_rfl)) (fun _ _ _ h => h) (Or.inl ⟨by rfl, ?_⟩) hHeld ?_ ?_
                                      rotate_left
                                      · rintro w' ⟨s0, s1⟩
                                        go_simp
                                        with_reducible rfl
                                      rotate_left
                                      · simp only [Act.put, List.setIfInBounds_toArray, List.set_cons_zero, List.set_cons_succ, i64_w, i32_w]
                                        rfl
                                      refine pure_ (i := 11) (N := some 48) (v := ?_) (a' := ?_) #[true, true, true, true, true, true, true, true, true, true, true, true, false, false] rfl rfl (any_of HT_.out (by kernel_rfl)) (fun _ _ _ h => h) (Or.inl ⟨by rfl, ?_⟩) ?_ ?_
                                      rotate_left
                                      · intro w'
                                        go_simp
                                        with_reducible rfl
                                      rotate_left
                                      · simp only [Act.put, List.setIfInBounds_toArray, List.set_cons_zero, List.set_cons_succ, i64_w, i32_w]
                                        rfl
                                      refine pure_ (i := 12) (N := some 49) (v := ?_) (a' := ?_) #[true, true, true, true, true, true, true, true, true, true, true, true, true, false] rfl rfl (any_of HT_.out (by kernel_rfl)) (fun _ _ _ h => h) (Or.inl ⟨by rfl, ?_⟩) ?_ ?_
                                      rotate_left
                                      · intro w'
                                        go_simp
                                        with_reducible rfl
                                      rotate_left
                                      · simp only [Act.put, List.setIfInBounds_toArray, List.set_cons_zero, List.set_cons_succ, i64_w, i32_w]
                                        rfl
                                      refine last_ (i := 13) (N := none) #[true, true, true, true, true, true, true, true, true, true, true, true, true, true] rfl rfl (one_of HT_.out (by kernel_rfl)) (by decide) (fun K hK => ?_)
                                      refine skip_ (w1 := ?_) (by rfl) rfl ?_ ?_
                                      rotate_left
                                      · go_simp
                                        rfl
                                      refine hK.out _ _ ?_
                                      clear hK K
                                      refine done_ (done_of HT_.out (by kernel_rfl)) ?_
                                      try go_wp2
                                      (try simp only [← hl5_2])
                                      first | go_roundg k2 | (simp only [← hji3, ← hji13, ← hji23]; go_roundg k2)
                                      case measure => have := HK1.out; have := HK2.out; omega
                                      case rel => exact ⟨(y261), (wrap64 (x30_2 + 1)), (by first | rfl | (simp; done) | (simp [*]; done) | (simp only [IntWalk.i64_left]; done) | (simp [IntWalk.i64_left]; done) | (simp [*, IntWalk.i64_left]; done)), H', ⟨by have := HK1.out; have := HK2.out; omega⟩, ⟨by (try simp only [hl5_1]); (try simp only [hl5_2]); (with_reducible repeat (first | apply Kd.R_alloc | apply Kd.R_drewN | apply Kd.R_drew)); exact HQ28.out⟩, ⟨by repeat (first | (with_reducible first | exact HB.out | apply below_alloc | apply pw_below_drewN | apply below_drew1 | refine below_set ?_ GB7.out) | exact HB.out)⟩⟩
                                    · rw [if_neg c25] at H
                                      exact absurd H (by simp)
                                  · rw [if_neg c24] at H
                                    exact absurd H (by simp)
                                · rw [if_neg c22] at H
                                  exact absurd H (by simp)
                              · rw [if_neg c21] at H
                                exact absurd H (by simp)
                            · replace c20 := Bool.eq_false_iff.mpr c20
                              subst c20
                              have H1 : (impl_readings.l1 k2 l0 a1 x5_2 x6_1 (a1.extract ((ji13) : Int).toNat a1.size) l0 (l0.length : Int) (wrap64 (x30_2 + 1))) = some r := by rw [if_neg (show ¬ (false = true) by decide)] at H; exact H
                              clear H
                              have H := H1
                              clear H1
                              have H' := Aside0.mk H
                              clear H
                              have p257 : 0 ≤ (x30_2 : Int) := of_decide_eq_true (by first | (with_reducible assumption) | assumption)
                              have q257 : x30_2 < (l0.length : Int) := of_decide_eq_true (by first | (with_reducible assumption) | assumption)
                              obtain ⟨ad257, e257, hx257_0⟩ := Kd.at_string HR0.out x30_2 p257 q257
                              cases e257
                              replace hx257_0 := (HB.out.cell (World.block_lt_of_cell? w _ hx257_0)).trans hx257_0
                              replace p257 := eq_true p257
                              replace q257 := eq_true q257
                              go_wp2_with (first | ((with_reducible refine gate_callee (f := 56) rfl ?_); refine goesL_ (some 36) rfl rfl Tryd.func56 (by kernel_rfl) rfl #[.string (a1.extract ((ji13) : Int).toNat a1.size), .string (rdOf ByteArray.empty l0 x30_2)] rfl (by (try simp only [List.map_toArray, List.map_cons, List.map_nil]); first | done | (simp only [hji13]; rfl) | rfl | (simp only [List.length_drop, List.length_take]; rfl)) ?_; (with_reducible refine (strings_HasPrefix.calls (a1.extract ((ji13) : Int).toNat a1.size) (rdOf ByteArray.empty l0 x30_2) false _ A19.out).mono ?_); rintro e w' ⟨rfl, ⟨nd, rfl⟩⟩; refine ⟨_, rfl, ?_⟩))
                              (try simp only [← hl5_2])
                              first | go_roundg k2 | (simp only [← hji3, ← hji13]; go_roundg k2)
                              case measure => have := HK1.out; have := HK2.out; omega
                              case rel => exact ⟨(x5_2), (wrap64 (x30_2 + 1)), (by first | rfl | (simp; done) | (simp [*]; done) | (simp only [IntWalk.i64_left]; done) | (simp [IntWalk.i64_left]; done) | (simp [*, IntWalk.i64_left]; done)), H', ⟨by have := HK1.out; have := HK2.out; omega⟩, ⟨by (try simp only [hl5_1]); (try simp only [hl5_2]); (with_reducible repeat (first | apply Kd.R_alloc | apply Kd.R_drewN | apply Kd.R_drew)); exact HO_5.out⟩, ⟨by repeat (first | (with_reducible first | exact HB.out | apply below_alloc | apply pw_below_drewN | apply below_drew1) | exact HB.out)⟩⟩
                          · rw [if_neg c18] at H
                            exact absurd H (by simp)
                        · rw [if_neg c17] at H
                          exact absurd H (by simp)
                      · rw [if_neg c16] at H
                        have c16b0 : decide (x30_2 < (l0.length : Int)) = false := decide_eq_false c16
                        (try (have c16h0 := c16b0; simp only [hl5_1, hl5_2] at c16h0))
                        clear c16
                        have H' := Aside0.mk H
                        clear H
                        go_wp2
                        (try simp only [← hl5_1, ← hl5_2])
                        first | go_roundg k2 | (simp only [← hji3, ← hji13]; go_roundg k2)
                        case measure => have := HK1.out; have := HK2.out; omega
                        case rel => exact ⟨(x5_2), (wrap64 (x6_1 + 1)), (by first | rfl | (simp; done) | (simp [*]; done) | (simp only [IntWalk.i64_left]; done) | (simp [IntWalk.i64_left]; done) | (simp [*, IntWalk.i64_left]; done)), H', ⟨by have := HK1.out; have := HK2.out; omega⟩, ⟨by (try simp only [hl5_1]); (try simp only [hl5_2]); (with_reducible repeat (first | apply Kd.R_alloc | apply Kd.R_drewN | apply Kd.R_drew)); exact HO_5.out⟩, ⟨by repeat (first | (with_reducible first | exact HB.out | apply below_alloc | apply pw_below_drewN | apply below_drew1) | exact HB.out)⟩⟩
                · rw [if_neg c15] at H
                  exact absurd H (by simp)
              · rw [if_neg c14] at H
                exact absurd H (by simp)
            · rw [if_neg c12] at H
              have c12b0 : decide (x6_1 ≤ (a1.size : Int)) = false := decide_eq_false c12
              (try (have c12h0 := c12b0; simp only [hl5_1] at c12h0))
              clear c12
              obtain rfl := Option.some.inj H
              go_wp2
              go_ret
              exact ⟨_, by first | rfl | (simp [errW_none, errW_some] <;> rfl) | (simp only [← hji3]; first | rfl | (simp [errW_none, errW_some] <;> rfl)) | (simp [*, errW_none, errW_some] <;> rfl), by (with_reducible repeat (first | apply Kd.R_alloc | apply Kd.R_drewN | apply Kd.R_drew)); exact HO_5.out, by repeat (first | (with_reducible first | exact HB.out | apply below_alloc | apply pw_below_drewN | apply below_drew1) | exact HB.out)⟩
      · rw [if_neg c6] at H
        exact absurd H (by simp)
    · rw [if_neg c5] at H
      exact absurd H (by simp)
  · rw [if_neg c4] at H
    exact absurd H (by simp)

/-! ### impl_countReadings: function 51 -/
def impl_countReadings.f (k : Nat) (l0 : List ByteArray) (a1 : ByteArray) : Option (Int) := (impl_readings.f k l0 a1).bind fun t262 => (if 0 ≤ (a1.size : Int) then (if (a1.size : Int) < (t262.length : Int) then (some (rd t262 (a1.size : Int))) else (none)) else (none))
theorem impl_countReadings.mono : ∀ a0 a1 k, LeO (impl_countReadings.f k a0 a1) (impl_countReadings.f (k + 1) a0 a1) := by
  intro a0 a1 k
  unfold impl_countReadings.f
  repeat' first
      | (with_reducible exact impl_readings.mono _ _ _)
      | (with_reducible exact LeO.refl _)
      | (with_reducible exact LeO.none _)
      | (with_reducible refine LeO.ite ?_ ?_)
      | (with_reducible refine LeO.bind ?_ (fun _ => ?_))
      | exact impl_readings.mono _ _ _
      | exact LeO.none _
      | refine LeO.ite ?_ ?_
      | refine LeO.bind ?_ (fun _ => ?_)
set_option maxHeartbeats 8000000 in
set_option maxRecDepth 100000 in
theorem impl_countReadings.calls (k : Nat) (A0 : Option Addr) (c0 : Nat) (l0 : List ByteArray) (a1 : ByteArray) (r : Int) (w : World) (hr0 : Kd.C Kd.string w A0 l0.length l0) (hc0 : l0.length ≤ c0) (h : impl_countReadings.f k l0 a1 = some r) :
    Calls Tryd.prog 51 #[.slice A0 l0.length c0, .string a1] w fun e w' => e = .returned (.int .i64 r) ∧ Below w.heap.size w w' := by
  have HR0 := Aside0.mk hr0
  have HC0 := Aside0.mk hc0
  clear hr0 hc0
  have HB := Aside0.mk (Below.refl w.heap.size w)
  have H : ((impl_readings.f k l0 a1).bind fun t262 => (if 0 ≤ (a1.size : Int) then (if (a1.size : Int) < (t262.length : Int) then (some (rd t262 (a1.size : Int))) else (none)) else (none))) = some r := h
  clear h
  replace H := Option.bind_eq_some_iff.mp H
  obtain ⟨t262, A30, H⟩ := H
  replace H : (if 0 ≤ (a1.size : Int) then (if (a1.size : Int) < (t262.length : Int) then (some (rd t262 (a1.size : Int))) else (none)) else (none)) = some r := H
  have A3 := Aside0.mk A30
  clear A30
  by_cases c4 : 0 ≤ (a1.size : Int)
  · rw [if_pos c4] at H
    have c4b0 : decide (0 ≤ (a1.size : Int)) = true := decide_eq_true c4
    have c4b1 : decide (0 ≤ a1.size) = true := decide_eq_true (by omega)
    clear c4
    by_cases c5 : (a1.size : Int) < (t262.length : Int)
    · rw [if_pos c5] at H
      have c5b0 : decide ((a1.size : Int) < (t262.length : Int)) = true := decide_eq_true c5
      have c5b1 : decide (a1.size < t262.length) = true := decide_eq_true (Int.ofNat_lt.mp c5)
      clear c5
      obtain rfl := Option.some.inj H
      go_enter Tryd.func51, Tryd.ntmps51
      go_wp2_with (first | ((with_reducible refine gate_callee (f := 95) rfl ?_); refine goesL_ (some 7) rfl rfl Tryd.func95 (by kernel_rfl) rfl #[.slice A0 l0.length c0, .string a1] rfl (by (try simp only [List.map_toArray, List.map_cons, List.map_nil]); first | done | rfl | (simp only [List.length_drop, List.length_take]; rfl)) ?_; (with_reducible refine (impl_readings.calls k _ _ l0 a1 t262 _ ?side1 ?side2 A3.out).mono ?_); (case side1 => repeat (first | exact HR0.out | (with_reducible refine Kd.C_alloc ?_ _) | (with_reducible refine Kd.C_drewN ?_ _) | (with_reducible refine Kd.C_drew ?_))); (case side2 => exact HC0.out); rintro e w6 ⟨v263, rfl, ho0, hb⟩; refine ⟨_, rfl, ?_⟩; have n0_ := Aside0.mk (Kd.R_lower ho0 (below_size (by repeat (first | (with_reducible first | exact HB.out | apply below_alloc | apply pw_below_drewN | apply below_drew1) | exact HB.out)))); have n1_ := Aside0.mk (below_step (by repeat (first | (with_reducible first | exact HB.out | apply below_alloc | apply pw_below_drewN | apply below_drew1) | exact HB.out)) hb); clear HB; have HO264 := n0_; have HB := n1_; clear n0_ n1_; (try clear hb); (try clear hb2); (try clear hk); (try clear hi); (try clear ho0); obtain ⟨Ao7, co7, eo7⟩ := Kd.R_slice HO264.out; subst eo7; have p265 : 0 ≤ ((a1.size : Int) : Int) := of_decide_eq_true (by first | (with_reducible assumption) | assumption); have q265 : (a1.size : Int) < (t262.length : Int) := of_decide_eq_true (by first | (with_reducible assumption) | assumption); obtain ⟨ad265, e265, hx265_0⟩ := Kd.at_int (Kd.R_reads' HO264.out).2.2 (a1.size : Int) p265 q265; cases e265; (try simp only [Go.IntWalk.toNatUp] at hx265_0); replace p265 := eq_true p265; replace q265 := eq_true q265))
      go_ret
      exact ⟨by first | rfl | (simp [errW_none, errW_some] <;> rfl) | (simp [*, errW_none, errW_some] <;> rfl), by repeat (first | (with_reducible first | exact HB.out | apply below_alloc | apply pw_below_drewN | apply below_drew1) | exact HB.out)⟩
    · rw [if_neg c5] at H
      exact absurd H (by simp)
  · rw [if_neg c4] at H
    exact absurd H (by simp)

/-! ### impl_leastGenerators: function 66 -/
def impl_leastGenerators.l0 : Nat → List ByteArray → List ByteArray → List ByteArray → Int → Int → Option (List ByteArray)
  | 0, _, _, _, _, _ => none
  | k + 1, x0, x3, x7, x8, x9 => if x9 < x8 then (if 0 ≤ x9 then (if x9 < (x7.length : Int) then ((impl_countReadings.f k x0 (rdOf ByteArray.empty x7 x9)).bind fun t270 => (if t270 = 1 then (if x3.length < 8796093022208 then (impl_leastGenerators.l0 k x0 (x3 ++ [rdOf ByteArray.empty x7 x9]) x7 x8 (wrap64 (x9 + 1))) else (none)) else (impl_leastGenerators.l0 k x0 x3 x7 x8 (wrap64 (x9 + 1))))) else (none)) else (none)) else (some x3)
def impl_leastGenerators.f (k : Nat) (l0 : List ByteArray) : Option (List ByteArray) := impl_leastGenerators.l0 k l0 (([] : List ByteArray)) l0 (l0.length : Int) 0
theorem impl_leastGenerators.mono_l : ∀ k, (∀ y0 y1 y2 y3 y4, LeO (impl_leastGenerators.l0 k y0 y1 y2 y3 y4) (impl_leastGenerators.l0 (k + 1) y0 y1 y2 y3 y4))
  | 0 => fun _ _ _ _ _ r h => by simp [impl_leastGenerators.l0] at h
  | k + 1 => by
    have ih0 := impl_leastGenerators.mono_l k
    · intro y0 y1 y2 y3 y4
      unfold impl_leastGenerators.l0
      repeat' first
      | (with_reducible exact ih0 _ _ _ _ _)
      | (with_reducible exact impl_countReadings.mono _ _ _)
      | (with_reducible exact LeO.refl _)
      | (with_reducible exact LeO.none _)
      | (with_reducible refine LeO.ite ?_ ?_)
      | (with_reducible refine LeO.bind ?_ (fun _ => ?_))
      | exact ih0 _ _ _ _ _
      | exact impl_countReadings.mono _ _ _
      | exact LeO.none _
      | refine LeO.ite ?_ ?_
      | refine LeO.bind ?_ (fun _ => ?_)
theorem impl_leastGenerators.mono : ∀ a0 k, LeO (impl_leastGenerators.f k a0) (impl_leastGenerators.f (k + 1) a0) := by
  intro a0 k
  have ih0 := impl_leastGenerators.mono_l k
  unfold impl_leastGenerators.f
  repeat' first
      | (with_reducible exact ih0 _ _ _ _ _)
      | (with_reducible exact impl_countReadings.mono _ _ _)
      | (with_reducible exact LeO.refl _)
      | (with_reducible exact LeO.none _)
      | (with_reducible refine LeO.ite ?_ ?_)
      | (with_reducible refine LeO.bind ?_ (fun _ => ?_))
      | exact ih0 _ _ _ _ _
      | exact impl_countReadings.mono _ _ _
      | exact LeO.none _
      | refine LeO.ite ?_ ?_
      | refine LeO.bind ?_ (fun _ => ?_)
set_option maxHeartbeats 8000000 in
set_option maxRecDepth 100000 in
theorem impl_leastGenerators.calls (k : Nat) (A0 : Option Addr) (c0 : Nat) (l0 : List ByteArray) (r : List ByteArray) (w : World) (hr0 : Kd.C Kd.string w A0 l0.length l0) (hc0 : l0.length ≤ c0) (h : impl_leastGenerators.f k l0 = some r) :
    Calls Tryd.prog 66 #[.slice A0 l0.length c0] w fun e w' => ∃ v0_ : Value, e = .returned (v0_) ∧ Kd.R Kd.string 9 w' w.heap.size (fun _ => True) v0_ r ∧ Below w.heap.size w w' := by
  have HR0 := Aside0.mk hr0
  have HC0 := Aside0.mk hc0
  clear hr0 hc0
  have HB := Aside0.mk (Below.refl w.heap.size w)
  have H : (impl_leastGenerators.l0 k l0 (([] : List ByteArray)) l0 (l0.length : Int) 0) = some r := h
  clear h
  obtain ⟨y266, hy266⟩ : ∃ y_ : List ByteArray, y_ = (([] : List ByteArray)) := ⟨_, rfl⟩
  replace H : (impl_leastGenerators.l0 k l0 y266 l0 (l0.length : Int) 0) = some r := by first | (rw [hy266]; with_reducible exact H) | (have H2_ := (Option.bind_some _ _).symm.trans H; rw [hy266]; with_reducible exact H2_) | (have H2_ := (Option.bind_some _ _).symm.trans H; with_reducible exact H2_) | with_reducible exact H | (rw [hy266]; exact H) | exact H
  have Ny266 := Aside0.mk hy266
  clear hy266
  have H' := Aside0.mk H
  clear H
  go_enter Tryd.func66, Tryd.ntmps66
  go_wp2_with (first | ((with_reducible refine gate_dst (N := 6) rfl ?_); refine Kd.R_lit Kd.string _ 9 ?hg (N := 6) ?hd (xs := ([] : List ByteArray)) (inner := []) (ok := fun _ => True) (okp := fun _ => True) ?hr ?hp (fun _ hk => hk) trivial (Below.refl _ _) (Nat.le_refl _) (by simp) ?_; (case hd => rfl); (case hg => rfl); (case hr => first | (go_simp; done) | (go_simp; rfl)); (case hp => exact (Reps.none _ _)); intro v267 w2 ho3 hb hg_ hnew_; clear hg_ hnew_; (first | rw [← Ny266.out] at ho3 | (simp only [Int.reduceToNat] at ho3; rw [← Ny266.out] at ho3)); have n0_ := Aside0.mk (Kd.R_lower ho3 (below_size (by repeat (first | (with_reducible first | exact HB.out | apply below_alloc | apply pw_below_drewN | apply below_drew1) | exact HB.out)))); have n1_ := Aside0.mk (below_step (by repeat (first | (with_reducible first | exact HB.out | apply below_alloc | apply pw_below_drewN | apply below_drew1) | exact HB.out)) hb); clear HB; have HO268 := n0_; have HB := n1_; clear n0_ n1_; clear hb ho3))
  go_loopg [3, 9] k (fun kq v3 v9 w' => ∃ (x3_1 : List ByteArray) (x9_1 : Int), v9 = .int .i64 x9_1 ∧ Aside0 (impl_leastGenerators.l0 kq l0 x3_1 l0 (l0.length : Int) x9_1 = some r) ∧ Aside0 (kq ≤ k) ∧ Aside0 (Kd.R Kd.string 9 w' w.heap.size (fun _ => True) v3 x3_1) ∧ Aside0 (Below w.heap.size w w'))
  case atStart => exact ⟨(y266), (0), (by first | rfl | (simp; done) | (simp [*]; done) | (simp only [IntWalk.i64_left]; done) | (simp [IntWalk.i64_left]; done) | (simp [*, IntWalk.i64_left]; done)), H', ⟨Nat.le_refl _⟩, ⟨by (with_reducible repeat (first | apply Kd.R_alloc | apply Kd.R_drewN | apply Kd.R_drew)); exact HO268.out⟩, ⟨by repeat (first | (with_reducible first | exact HB.out | apply below_alloc | apply pw_below_drewN | apply below_drew1) | exact HB.out)⟩⟩
  case round =>
    clear H'
    try clear p2
    obtain ⟨x3_1, x9_1, rfl, HA, HK1, HO_3, HB⟩ := hrel
    cases gk with
    | zero => exact absurd HA.out (by simp [impl_leastGenerators.l0])
    | succ k1 =>
      have H := HA.out
      clear HA
      simp only [impl_leastGenerators.l0] at H
      by_cases c4 : x9_1 < (l0.length : Int)
      · rw [if_pos c4] at H
        have c4b0 : decide (x9_1 < (l0.length : Int)) = true := decide_eq_true c4
        clear c4
        by_cases c5 : 0 ≤ x9_1
        · rw [if_pos c5] at H
          have c5b0 : decide (0 ≤ x9_1) = true := decide_eq_true c5
          clear c5
          by_cases c6 : x9_1 < (l0.length : Int)
          · rw [if_pos c6] at H
            have c6b0 : decide (x9_1 < (l0.length : Int)) = true := decide_eq_true c6
            clear c6
            replace H := Option.bind_eq_some_iff.mp H
            obtain ⟨t270, A70, H⟩ := H
            replace H : (if t270 = 1 then (if x3_1.length < 8796093022208 then (impl_leastGenerators.l0 k1 l0 (x3_1 ++ [rdOf ByteArray.empty l0 x9_1]) l0 (l0.length : Int) (wrap64 (x9_1 + 1))) else (none)) else (impl_leastGenerators.l0 k1 l0 x3_1 l0 (l0.length : Int) (wrap64 (x9_1 + 1)))) = some r := H
            have A7 := Aside0.mk A70
            clear A70
            by_cases c8 : t270 = 1
            · rw [if_pos c8] at H
              have c8b0 : (t270 == 1) = true := beq_iff_eq.mpr c8
              have c8b1 : (t270 != 1) = false := bne_eq_false_iff_eq.mpr c8
              clear c8
              by_cases c9 : x3_1.length < 8796093022208
              · rw [if_pos c9] at H
                have LMc9 := Aside0.mk c9
                clear c9
                obtain ⟨y271, hy271⟩ : ∃ y_ : List ByteArray, y_ = (x3_1 ++ [rdOf ByteArray.empty l0 x9_1]) := ⟨_, rfl⟩
                replace H : (impl_leastGenerators.l0 k1 l0 y271 l0 (l0.length : Int) (wrap64 (x9_1 + 1))) = some r := by first | (rw [hy271]; with_reducible exact H) | (have H2_ := (Option.bind_some _ _).symm.trans H; rw [hy271]; with_reducible exact H2_) | (have H2_ := (Option.bind_some _ _).symm.trans H; with_reducible exact H2_) | with_reducible exact H | (rw [hy271]; exact H) | exact H
                have Ny271 := Aside0.mk hy271
                clear hy271
                have H' := Aside0.mk H
                clear H
                have p269 : 0 ≤ (x9_1 : Int) := of_decide_eq_true (by first | (with_reducible assumption) | assumption)
                have q269 : x9_1 < (l0.length : Int) := of_decide_eq_true (by first | (with_reducible assumption) | assumption)
                obtain ⟨ad269, e269, hx269_0⟩ := Kd.at_string HR0.out x9_1 p269 q269
                cases e269
                replace hx269_0 := (HB.out.cell (World.block_lt_of_cell? w _ hx269_0)).trans hx269_0
                replace p269 := eq_true p269
                replace q269 := eq_true q269
                go_wp2_with (first | ((with_reducible refine gate_callee (f := 51) rfl ?_); refine goesL_ (some 15) rfl rfl Tryd.func51 (by kernel_rfl) rfl #[.slice (some ad269) l0.length c0, .string (rdOf ByteArray.empty l0 x9_1)] rfl (by (try simp only [List.map_toArray, List.map_cons, List.map_nil]); first | done | rfl | (simp only [List.length_drop, List.length_take]; rfl)) ?_; (with_reducible refine (impl_countReadings.calls k1 _ _ l0 (rdOf ByteArray.empty l0 x9_1) t270 _ ?side1 ?side2 A7.out).mono ?_); (case side1 => repeat (first | exact (Kd.C_below HR0.out HB.out) | (with_reducible refine Kd.C_alloc ?_ _) | (with_reducible refine Kd.C_drewN ?_ _) | (with_reducible refine Kd.C_drew ?_))); (case side2 => exact HC0.out); rintro e w10 ⟨rfl, hb⟩; refine ⟨_, rfl, ?_⟩; have n0_ := Aside0.mk (Kd.R_below (by (with_reducible repeat (first | apply Kd.R_alloc | apply Kd.R_drewN | apply Kd.R_drew)); exact HO_3.out) hb); have n1_ := Aside0.mk (below_step (by repeat (first | (with_reducible first | exact HB.out | apply below_alloc | apply pw_below_drewN | apply below_drew1) | exact HB.out)) hb); clear HO_3; clear HB; have HO_3 := n0_; have HB := n1_; clear n0_ n1_; (try clear hb); (try clear hb2); (try clear hk); (try clear hi)) | ((with_reducible refine gate_builtin (b := .append) (xs := #[.tmp 17, .tmp 19]) rfl ?_); at_builtin; refine Kd.R_append Kd.string (w0 := w) w.heap.size rfl (.tmp 17) (.tmp 19) 22 9 (.string ⟨#[]⟩) 16 rfl Tryd.underlying22 info9 rfl (by decide) (by omega) u3 x3_1 (rdOf ByteArray.empty l0 x9_1) [.string (rdOf ByteArray.empty l0 x9_1)] (fun _ => True) (fun _ => False) rfl rfl ?aP (fun _ hk => hk.elim) ?aF ?aO ?aB ?aS ?aL ?_; (case aP => exact rfl); (case aB => exact (by repeat (first | (with_reducible first | exact HB.out | apply below_alloc | apply pw_below_drewN | apply below_drew1) | exact HB.out))); (case aF => exact (fun _ _ => trivial)); (case aO => exact (by (with_reducible repeat (first | apply Kd.R_alloc | apply Kd.R_drewN | apply Kd.R_drew)); exact HO_3.out)); (case aS => exact (below_size (by repeat (first | (with_reducible first | exact HB.out | apply below_alloc | apply pw_below_drewN | apply below_drew1) | exact HB.out)))); (case aL => have := LMc9.out; omega); intro v272 w11 ho hb hg hat; rw [← Ny271.out] at ho; have n0_ := Aside0.mk (hb); have n1_ := Aside0.mk (ho); clear HB; clear HO_3; have HB := n0_; have HO273 := n1_; clear n0_ n1_; clear ho hb hg hat))
                go_roundg k1
                case measure => have := HK1.out; omega
                case rel => exact ⟨(y271), (wrap64 (x9_1 + 1)), (by first | rfl | (simp; done) | (simp [*]; done) | (simp only [IntWalk.i64_left]; done) | (simp [IntWalk.i64_left]; done) | (simp [*, IntWalk.i64_left]; done)), H', ⟨by have := HK1.out; omega⟩, ⟨by (with_reducible repeat (first | apply Kd.R_alloc | apply Kd.R_drewN | apply Kd.R_drew)); exact HO273.out⟩, ⟨by repeat (first | (with_reducible first | exact HB.out | apply below_alloc | apply pw_below_drewN | apply below_drew1) | exact HB.out)⟩⟩
              · rw [if_neg c9] at H
                exact absurd H (by simp)
            · rw [if_neg c8] at H
              have c8b0 : (t270 == 1) = false := beq_eq_false_iff_ne.mpr c8
              have c8b1 : (t270 != 1) = true := bne_iff_ne.mpr c8
              have H' := Aside0.mk H
              clear H
              have p269 : 0 ≤ (x9_1 : Int) := of_decide_eq_true (by first | (with_reducible assumption) | assumption)
              have q269 : x9_1 < (l0.length : Int) := of_decide_eq_true (by first | (with_reducible assumption) | assumption)
              obtain ⟨ad269, e269, hx269_0⟩ := Kd.at_string HR0.out x9_1 p269 q269
              cases e269
              replace hx269_0 := (HB.out.cell (World.block_lt_of_cell? w _ hx269_0)).trans hx269_0
              replace p269 := eq_true p269
              replace q269 := eq_true q269
              go_wp2_with (first | ((with_reducible refine gate_callee (f := 51) rfl ?_); refine goesL_ (some 15) rfl rfl Tryd.func51 (by kernel_rfl) rfl #[.slice (some ad269) l0.length c0, .string (rdOf ByteArray.empty l0 x9_1)] rfl (by (try simp only [List.map_toArray, List.map_cons, List.map_nil]); first | done | rfl | (simp only [List.length_drop, List.length_take]; rfl)) ?_; (with_reducible refine (impl_countReadings.calls k1 _ _ l0 (rdOf ByteArray.empty l0 x9_1) t270 _ ?side1 ?side2 A7.out).mono ?_); (case side1 => repeat (first | exact (Kd.C_below HR0.out HB.out) | (with_reducible refine Kd.C_alloc ?_ _) | (with_reducible refine Kd.C_drewN ?_ _) | (with_reducible refine Kd.C_drew ?_))); (case side2 => exact HC0.out); rintro e w12 ⟨rfl, hb⟩; refine ⟨_, rfl, ?_⟩; have n0_ := Aside0.mk (Kd.R_below (by (with_reducible repeat (first | apply Kd.R_alloc | apply Kd.R_drewN | apply Kd.R_drew)); exact HO_3.out) hb); have n1_ := Aside0.mk (below_step (by repeat (first | (with_reducible first | exact HB.out | apply below_alloc | apply pw_below_drewN | apply below_drew1) | exact HB.out)) hb); clear HO_3; clear HB; have HO_3 := n0_; have HB := n1_; clear n0_ n1_; (try clear hb); (try clear hb2); (try clear hk); (try clear hi)))
              go_roundg k1
              case measure => have := HK1.out; omega
              case rel => exact ⟨(x3_1), (wrap64 (x9_1 + 1)), (by first | rfl | (simp; done) | (simp [*]; done) | (simp only [IntWalk.i64_left]; done) | (simp [IntWalk.i64_left]; done) | (simp [*, IntWalk.i64_left]; done)), H', ⟨by have := HK1.out; omega⟩, ⟨by (with_reducible repeat (first | apply Kd.R_alloc | apply Kd.R_drewN | apply Kd.R_drew)); exact HO_3.out⟩, ⟨by repeat (first | (with_reducible first | exact HB.out | apply below_alloc | apply pw_below_drewN | apply below_drew1) | exact HB.out)⟩⟩
          · rw [if_neg c6] at H
            exact absurd H (by simp)
        · rw [if_neg c5] at H
          exact absurd H (by simp)
      · rw [if_neg c4] at H
        have c4b0 : decide (x9_1 < (l0.length : Int)) = false := decide_eq_false c4
        clear c4
        obtain rfl := Option.some.inj H
        go_wp2
        go_ret
        exact ⟨_, by first | rfl | (simp [errW_none, errW_some] <;> rfl) | (simp [*, errW_none, errW_some] <;> rfl), by (with_reducible repeat (first | apply Kd.R_alloc | apply Kd.R_drewN | apply Kd.R_drew)); exact HO_3.out, by repeat (first | (with_reducible first | exact HB.out | apply below_alloc | apply pw_below_drewN | apply below_drew1) | exact HB.out)⟩

-- impl_MeetGenerators: function 24, by hand
set_option maxHeartbeats 8000000 in
theorem meet_clo (W : World) (By : Nat) (A : Option Addr) (c : Nat) (ys : List ByteArray) (hcell : W.cell? ⟨By, 0, none⟩ = some (.slice A ys.length c)) (hy : Kd.C Kd.string W A ys.length ys) (s : ByteArray) :
    FnGives Tryd.prog 64 #[.pointer (some ⟨By, 0, none⟩)] #[.string s] (.bool (!hasS ys s)) W := by
  have hcon := contains_calls A c ys s W hy
  clear hy
  unfold FnGives
  generalize hasS ys s = bb at hcon ⊢
  go_enter Tryd.func64, Tryd.ntmps64
  go_wp2_with (go_at_call 65; refine hcon.mono ?_; rintro e w' ⟨rfl, rfl⟩)
  go_ret
  exact ⟨rfl, 0, rfl⟩
theorem meet_at (w1 w2 : World) (v1 : Value) (xs ys : List ByteArray) (base : Nat) (A9 : Option Addr) (c9 : Nat) {ok ok' : Nat → Prop} (HX : Kd.R Kd.string 9 w1 base ok v1 xs) (HY : Kd.R Kd.string 9 w2 w1.heap.size ok' (.slice A9 ys.length c9) ys) (hle : w1.heap.size ≤ w2.heap.size) :
    ∀ W s, (w2.alloc (.cells #[.slice A9 ys.length c9] 22)).grownBy W v1.ownBlock → FnGives Tryd.prog 64 #[.pointer (some ⟨w2.heap.size, 0, none⟩)] #[.string s] (.bool (!hasS ys s)) W := by
  intro W s hg
  have hne : ∀ k, w1.heap.size ≤ k → some k ≠ v1.ownBlock := fun k hk e => absurd (Kd.R_lt HX k e.symm) (Nat.not_lt.2 hk)
  refine meet_clo W w2.heap.size A9 c9 ys ?_ ?_ s
  · have h1 : W.heap[w2.heap.size]? = some (.cells #[.slice A9 ys.length c9] 22 (0, 0)) := by
      rw [hg.block _ (by simp) (hne _ hle)]
      unfold World.alloc; simp
    exact cell_of_one h1
  · have h1 := Kd.R_alloc HY (.cells #[.slice A9 ys.length c9] 22)
    have h2 := Kd.R_grown (ok := fun k => w1.heap.size ≤ k) (Kd.R_mono (Kd.R_bound h1) (fun k hk => hk.2.1)) hg (fun k hk => hne k hk)
    exact (Kd.R_reads' h2).2.2
def impl_MeetGenerators.f (k : Nat) (l0 l1 : List ByteArray) (a2 : Int) : Option (List ByteArray × Bool) := (impl_writtenUpTo.f k l0 a2).bind fun x => ((impl_writtenUpTo.f k l1 a2).bind fun y => (if (x.2 && y.2) = true then ((impl_leastGenerators.f k (x.1.filter fun s => !(!hasS y.1 s))).bind fun g => (if g.length > 12 then some ([], false) else some (g, true))) else some ([], false)))
theorem impl_MeetGenerators.mono : ∀ a0 a1 a2 k, LeO (impl_MeetGenerators.f k a0 a1 a2) (impl_MeetGenerators.f (k + 1) a0 a1 a2) := by
  intro a0 a1 a2 k
  unfold impl_MeetGenerators.f
  exact LeO.bind (impl_writtenUpTo.mono _ _ _) fun x => LeO.bind (impl_writtenUpTo.mono _ _ _) fun y => LeO.ite (LeO.bind (impl_leastGenerators.mono _ _) fun g => LeO.refl _) (LeO.refl _)
set_option maxHeartbeats 16000000 in
set_option maxRecDepth 100000 in
theorem impl_MeetGenerators.calls (k : Nat) (A0 : Option Addr) (c0 : Nat) (l0 : List ByteArray) (A1 : Option Addr) (c1 : Nat) (l1 : List ByteArray) (a2 : Int) (r1 : List ByteArray) (r2 : Bool) (w : World) (hr0 : Kd.C Kd.string w A0 l0.length l0) (hc0 : l0.length ≤ c0) (hr1 : Kd.C Kd.string w A1 l1.length l1) (hc1 : l1.length ≤ c1) (h : impl_MeetGenerators.f k l0 l1 a2 = some (r1, r2)) :
    Calls Tryd.prog 24 #[.slice A0 l0.length c0, .slice A1 l1.length c1, .int .i64 a2] w fun e w' => ∃ v0_ : Value, e = .returned (.tuple #[v0_, .bool r2]) ∧ Kd.R Kd.string 9 w' w.heap.size (fun _ => True) v0_ r1 ∧ Below w.heap.size w w' := by
  have HR0 := Aside0.mk hr0
  have HC0 := Aside0.mk hc0
  have HR1 := Aside0.mk hr1
  have HC1 := Aside0.mk hc1
  unfold impl_MeetGenerators.f at h
  obtain ⟨⟨xs, one⟩, A20, h⟩ := Option.bind_eq_some_iff.mp h
  have A2 := Aside0.mk A20
  obtain ⟨⟨ys, two⟩, A30, h⟩ := Option.bind_eq_some_iff.mp (show ((impl_writtenUpTo.f k l1 a2).bind fun y => (if (one && y.2) = true then ((impl_leastGenerators.f k (xs.filter fun s => !(!hasS y.1 s))).bind fun g => (if g.length > 12 then some ([], false) else some (g, true))) else some ([], false))) = some (r1, r2) from h)
  have A3 := Aside0.mk A30
  replace h : (if (one && two) = true then ((impl_leastGenerators.f k (xs.filter fun s => !(!hasS ys s))).bind fun g => (if g.length > 12 then some ([], false) else some (g, true))) else some ([], false)) = some (r1, r2) := h
  clear hr0 hc0 hr1 hc1 A20 A30
  by_cases hb : (one && two) = true
  · rw [if_pos hb] at h
    obtain ⟨g, A40, h9⟩ := Option.bind_eq_some_iff.mp h
    obtain ⟨zs, hzs⟩ : ∃ zs, zs = xs.filter fun s => !(!hasS ys s) := ⟨_, rfl⟩
    rw [← hzs] at A40
    have A4 := Aside0.mk A40
    have HZS := Aside0.mk hzs
    clear A40 hzs
    simp only [Bool.and_eq_true] at hb
    obtain ⟨rfl, rfl⟩ := hb
    replace h : (if g.length > 12 then some (([] : List ByteArray), false) else some (g, true)) = some (r1, r2) := h9
    clear h9
    by_cases hg : g.length > 12
    · rw [if_pos hg] at h
      obtain ⟨rfl, rfl⟩ : [] = r1 ∧ false = r2 := by simpa using h
      have g1 : decide ((g.length : Int) > 12) = true := decide_eq_true (by omega)
      have g2 : decide (12 < g.length) = true := decide_eq_true hg
      clear h hg
      go_enter Tryd.func24, Tryd.ntmps24
      go_wp2_with (first
        | (go_at_call 62; (with_reducible refine (impl_writtenUpTo.calls k _ _ l0 a2 xs true _ HR0.out HC0.out A2.out).mono ?_); rintro e w1 ⟨v1, rfl, ho1, hb1⟩; have HX := Aside0.mk ho1; have HB1 := Aside0.mk hb1; clear ho1 hb1)
        | (go_at_call 62; (with_reducible refine (impl_writtenUpTo.calls k _ _ l1 a2 ys true _ (Kd.C_below HR1.out HB1.out) HC1.out A3.out).mono ?_); rintro e w2 ⟨v2, rfl, ho2, hb2⟩; obtain ⟨A9, c9, e9⟩ := Kd.R_slice ho2; subst e9; have HY := Aside0.mk ho2; have HB2 := Aside0.mk hb2; clear ho2 hb2)
        | (go_at_call 63; (refine (delete_calls_at 64 #[.pointer (some ⟨w2.heap.size, 0, none⟩)] (enters_of Tryd.func64 (by kernel_rfl) rfl) (fun s => !hasS ys s) w.heap.size _ xs _ (Kd.R_alloc (Kd.R_below HX.out HB2.out) _) (Nat.le_trans HB1.out.size (Nat.le_trans HB2.out.size (by simp))) (meet_at w1 w2 _ xs ys w.heap.size A9 c9 HX.out HY.out HB2.out.size)).mono ?_); rintro e w4 ⟨v4, rfl, ho4, hb4⟩; replace ho4 : Kd.R Kd.string 9 w4 w.heap.size (fun _ => True) v4 zs := (by rw [HZS.out]; exact ho4); obtain ⟨A12, c12, e12⟩ := Kd.R_slice ho4; subst e12; have HO4 := Aside0.mk ho4; have HB4 := Aside0.mk ((below_alloc (below_step HB1.out HB2.out) _).trans hb4); clear ho4 hb4)
        | (go_at_call 66; (with_reducible refine (impl_leastGenerators.calls k _ _ _ g _ (Kd.R_reads' HO4.out).2.2 (Kd.R_reads' HO4.out).2.1 A4.out).mono ?_); rintro e w5 ⟨v5, rfl, ho5, hb5⟩; obtain ⟨A13, c13, e13⟩ := Kd.R_slice ho5; subst e13; have HO5 := Aside0.mk (Kd.R_lower ho5 HB4.out.size); have HB5 := Aside0.mk (below_step HB4.out hb5); clear ho5 hb5))
      go_ret2
      exact ⟨_, rfl, Kd.R_nil Kd.string _ _ _ _, HB5.out⟩
    · rw [if_neg hg] at h
      obtain ⟨rfl, rfl⟩ : g = r1 ∧ true = r2 := by simpa using h
      have g1 : decide ((g.length : Int) > 12) = false := decide_eq_false (by omega)
      have g2 : decide (12 < g.length) = false := decide_eq_false hg
      clear h hg
      go_enter Tryd.func24, Tryd.ntmps24
      go_wp2_with (first
        | (go_at_call 62; (with_reducible refine (impl_writtenUpTo.calls k _ _ l0 a2 xs true _ HR0.out HC0.out A2.out).mono ?_); rintro e w1 ⟨v1, rfl, ho1, hb1⟩; have HX := Aside0.mk ho1; have HB1 := Aside0.mk hb1; clear ho1 hb1)
        | (go_at_call 62; (with_reducible refine (impl_writtenUpTo.calls k _ _ l1 a2 ys true _ (Kd.C_below HR1.out HB1.out) HC1.out A3.out).mono ?_); rintro e w2 ⟨v2, rfl, ho2, hb2⟩; obtain ⟨A9, c9, e9⟩ := Kd.R_slice ho2; subst e9; have HY := Aside0.mk ho2; have HB2 := Aside0.mk hb2; clear ho2 hb2)
        | (go_at_call 63; (refine (delete_calls_at 64 #[.pointer (some ⟨w2.heap.size, 0, none⟩)] (enters_of Tryd.func64 (by kernel_rfl) rfl) (fun s => !hasS ys s) w.heap.size _ xs _ (Kd.R_alloc (Kd.R_below HX.out HB2.out) _) (Nat.le_trans HB1.out.size (Nat.le_trans HB2.out.size (by simp))) (meet_at w1 w2 _ xs ys w.heap.size A9 c9 HX.out HY.out HB2.out.size)).mono ?_); rintro e w4 ⟨v4, rfl, ho4, hb4⟩; replace ho4 : Kd.R Kd.string 9 w4 w.heap.size (fun _ => True) v4 zs := (by rw [HZS.out]; exact ho4); obtain ⟨A12, c12, e12⟩ := Kd.R_slice ho4; subst e12; have HO4 := Aside0.mk ho4; have HB4 := Aside0.mk ((below_alloc (below_step HB1.out HB2.out) _).trans hb4); clear ho4 hb4)
        | (go_at_call 66; (with_reducible refine (impl_leastGenerators.calls k _ _ _ g _ (Kd.R_reads' HO4.out).2.2 (Kd.R_reads' HO4.out).2.1 A4.out).mono ?_); rintro e w5 ⟨v5, rfl, ho5, hb5⟩; obtain ⟨A13, c13, e13⟩ := Kd.R_slice ho5; subst e13; have HO5 := Aside0.mk (Kd.R_lower ho5 HB4.out.size); have HB5 := Aside0.mk (below_step HB4.out hb5); clear ho5 hb5))
      go_ret2
      exact ⟨_, rfl, HO5.out, HB5.out⟩
  · rw [if_neg hb] at h
    obtain ⟨rfl, rfl⟩ : [] = r1 ∧ false = r2 := by simpa using h
    clear h
    cases one <;> cases two
    all_goals first
      | exact absurd rfl hb
      | (clear hb
         go_enter Tryd.func24, Tryd.ntmps24
         go_wp2_with (first
           | (go_at_call 62; (with_reducible refine (impl_writtenUpTo.calls k _ _ l0 a2 xs _ _ HR0.out HC0.out A2.out).mono ?_); rintro e w1 ⟨v1, rfl, ho1, hb1⟩; have HB1 := Aside0.mk hb1; clear ho1 hb1)
           | (go_at_call 62; (with_reducible refine (impl_writtenUpTo.calls k _ _ l1 a2 ys _ _ (Kd.C_below HR1.out HB1.out) HC1.out A3.out).mono ?_); rintro e w2 ⟨v2, rfl, ho2, hb2⟩; obtain ⟨A9, c9, e9⟩ := Kd.R_slice ho2; subst e9; have HB2 := Aside0.mk hb2; clear ho2 hb2))
         go_ret2
         exact ⟨_, rfl, Kd.R_nil Kd.string _ _ _ _, below_alloc (below_step HB1.out HB2.out) _⟩)

end Go.Proofs.YtaglbacldonflaaDoor.XFnExactMeetGenerators
