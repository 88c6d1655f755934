-- by wip/shake.py
import Derived.Test.YtcdmmpbcjcajlaaXFnOrderedCodesx0
namespace Go.Proofs.Ytcdmmpbcjcajlaa.XFnOrderedCodes
open Go.RowKit Go.Proofs.Ytcdmmpbcjcajlaa.Hand Go.Proofs.YtcdmmpbcjcajlaaW.PrintWords Go.Proofs.YtcdmmpbcjcajlaaW.PrintLast Go.Proofs.YtcdmmpbcjcajlaaW.PrintMore
attribute [local go_sem] max2_int min2_int max_two min_two max_three min_three max_four min_four   -- for this text's walks alone
set_option linter.unusedVariables false
set_option linter.unusedSimpArgs false
mutual
def spec_beOrdered.l0 : Nat → List Int → Int → List (List Int) → Int → Int → Option (Int)
 | 0, _, _, _, _, _ => none
 | k + 1, x0, x3, x4, x18, x19 => if x19 < x18 then (if 0 ≤ x3 then (if (x3 : Int).toNat ≤ 35184372088832 then (if 0 ≤ x19 then (if x19 < (x4.length : Int) then (spec_beOrdered.l0 k x0 x3 (x4.set (x19 : Int).toNat (List.replicate (x3 : Int).toNat 0)) x18 (wrap64 (x19 + 1))) else (none)) else (none)) else (none)) else (none)) else (spec_beOrdered.l1 k x0 x3 x4 2)
def spec_beOrdered.l1 : Nat → List Int → Int → List (List Int) → Int → Option (Int)
 | 0, _, _, _, _ => none
 | k + 1, x0, x3, x4, x6 => if x6 ≤ x3 then (spec_beOrdered.l2 k x0 x3 x4 x6 0) else (if 0 < (x4.length : Int) then (if 0 ≤ (wrap64 (x3 - 1)) then (if (wrap64 (x3 - 1)) < ((rd_L2 x4 0).length : Int) then (some (rd (rd_L2 x4 0) (wrap64 (x3 - 1)))) else (none)) else (none)) else (none))
def spec_beOrdered.l2 : Nat → List Int → Int → List (List Int) → Int → Int → Option (Int)
 | 0, _, _, _, _, _ => none
 | k + 1, x0, x3, x4, x6, x7 => if (wrap64 (x7 + x6)) ≤ x3 then (spec_beOrdered.l3 k x0 x3 x4 x6 x7 0 (-1) x7) else (spec_beOrdered.l1 k x0 x3 x4 (wrap64 (x6 + 1)))
def spec_beOrdered.l3 : Nat → List Int → Int → List (List Int) → Int → Int → Int → Int → Int → Option (Int)
 | 0, _, _, _, _, _, _, _, _ => none
 | k + 1, x0, x3, x4, x6, x7, x8, x9, x10 => if x10 < (wrap64 (x7 + x6)) then (if 0 ≤ x10 then (if x10 < (x0.length : Int) then (spec_beOrdered.l3 k x0 x3 x4 x6 x7 (wrap64 (x8 + (rd x0 x10))) x9 (wrap64 (x10 + 1))) else (none)) else (none)) else (spec_beOrdered.l4 k x0 x3 x4 x6 x7 x8 x9 x7)
def spec_beOrdered.l4 : Nat → List Int → Int → List (List Int) → Int → Int → Int → Int → Int → Option (Int)
 | 0, _, _, _, _, _, _, _, _ => none
 | k + 1, x0, x3, x4, x6, x7, x8, x9, x11 => if (wrap64 (x11 + 1)) < (wrap64 (x7 + x6)) then (if 0 ≤ x7 then (if x7 < (x4.length : Int) then (if 0 ≤ x11 then (if x11 < ((rd_L2 x4 x7).length : Int) then (if 0 ≤ (wrap64 (x11 + 1)) then (if (wrap64 (x11 + 1)) < (x4.length : Int) then (if 0 ≤ (wrap64 ((wrap64 (x7 + x6)) - 1)) then (if (wrap64 ((wrap64 (x7 + x6)) - 1)) < ((rd_L2 x4 (wrap64 (x11 + 1))).length : Int) then (if x9 < 0 then (spec_beOrdered.l4 k x0 x3 x4 x6 x7 x8 (wrap64 ((rd (rd_L2 x4 x7) x11) + (rd (rd_L2 x4 (wrap64 (x11 + 1))) (wrap64 ((wrap64 (x7 + x6)) - 1))))) (wrap64 (x11 + 1))) else (if (wrap64 ((rd (rd_L2 x4 x7) x11) + (rd (rd_L2 x4 (wrap64 (x11 + 1))) (wrap64 ((wrap64 (x7 + x6)) - 1))))) < x9 then (spec_beOrdered.l4 k x0 x3 x4 x6 x7 x8 (wrap64 ((rd (rd_L2 x4 x7) x11) + (rd (rd_L2 x4 (wrap64 (x11 + 1))) (wrap64 ((wrap64 (x7 + x6)) - 1))))) (wrap64 (x11 + 1))) else (spec_beOrdered.l4 k x0 x3 x4 x6 x7 x8 x9 (wrap64 (x11 + 1))))) else (none)) else (none)) else (none)) else (none)) else (none)) else (none)) else (none)) else (none)) else (if 0 ≤ x7 then (if x7 < (x4.length : Int) then (if 0 ≤ (wrap64 ((wrap64 (x7 + x6)) - 1)) then (if (wrap64 ((wrap64 (x7 + x6)) - 1)) < ((rd_L2 x4 x7).length : Int) then (spec_beOrdered.l2 k x0 x3 (x4.set (x7 : Int).toNat ((rd_L2 x4 x7).set ((wrap64 ((wrap64 (x7 + x6)) - 1)) : Int).toNat (wrap64 (x8 + x9)))) x6 (wrap64 (x7 + 1))) else (none)) else (none)) else (none)) else (none))
end
def spec_beOrdered.f (k : Nat) (l0 : List Int) : Option (Int) := if 0 ≤ (l0.length : Int) then (if ((l0.length : Int) : Int).toNat ≤ 11728124029610 then ((some (List.replicate ((l0.length : Int) : Int).toNat [] : List (List Int))).bind fun y203 => (spec_beOrdered.l0 k l0 (l0.length : Int) y203 (y203.length : Int) 0)) else (none)) else (none)
theorem spec_beOrdered.mono_l : ∀ k, (∀ y0 y1 y2 y3 y4, LeO (spec_beOrdered.l0 k y0 y1 y2 y3 y4) (spec_beOrdered.l0 (k + 1) y0 y1 y2 y3 y4)) ∧ (∀ y0 y1 y2 y3, LeO (spec_beOrdered.l1 k y0 y1 y2 y3) (spec_beOrdered.l1 (k + 1) y0 y1 y2 y3)) ∧ (∀ y0 y1 y2 y3 y4, LeO (spec_beOrdered.l2 k y0 y1 y2 y3 y4) (spec_beOrdered.l2 (k + 1) y0 y1 y2 y3 y4)) ∧ (∀ y0 y1 y2 y3 y4 y5 y6 y7, LeO (spec_beOrdered.l3 k y0 y1 y2 y3 y4 y5 y6 y7) (spec_beOrdered.l3 (k + 1) y0 y1 y2 y3 y4 y5 y6 y7)) ∧ (∀ y0 y1 y2 y3 y4 y5 y6 y7, LeO (spec_beOrdered.l4 k y0 y1 y2 y3 y4 y5 y6 y7) (spec_beOrdered.l4 (k + 1) y0 y1 y2 y3 y4 y5 y6 y7))
 | 0 => ⟨fun _ _ _ _ _ r h => by simp [spec_beOrdered.l0] at h, fun _ _ _ _ r h => by simp [spec_beOrdered.l1] at h, fun _ _ _ _ _ r h => by simp [spec_beOrdered.l2] at h, fun _ _ _ _ _ _ _ _ r h => by simp [spec_beOrdered.l3] at h, fun _ _ _ _ _ _ _ _ r h => by simp [spec_beOrdered.l4] at h⟩
 | k + 1 => by
  obtain ⟨ih0, ih1, ih2, ih3, ih4⟩ := spec_beOrdered.mono_l k
  refine ⟨?_, ?_, ?_, ?_, ?_⟩
  ·intro y0 y1 y2 y3 y4
   unfold spec_beOrdered.l0
   repeat' first
   | (with_reducible first | exact ih0 _ _ _ _ _ | exact ih1 _ _ _ _ | exact ih2 _ _ _ _ _ | exact ih3 _ _ _ _ _ _ _ _ | exact ih4 _ _ _ _ _ _ _ _ | exact LeO.refl _ | exact LeO.none _ | refine LeO.ite ?_ ?_ | refine LeO.bind ?_ (fun _ => ?_))
   | exact ih0 _ _ _ _ _
   | exact ih1 _ _ _ _
   | exact ih2 _ _ _ _ _
   | exact ih3 _ _ _ _ _ _ _ _
   | exact ih4 _ _ _ _ _ _ _ _
   | exact LeO.none _
   | refine LeO.ite ?_ ?_
   | refine LeO.bind ?_ (fun _ => ?_)
  ·intro y0 y1 y2 y3
   unfold spec_beOrdered.l1
   repeat' first
   | (with_reducible first | exact ih0 _ _ _ _ _ | exact ih1 _ _ _ _ | exact ih2 _ _ _ _ _ | exact ih3 _ _ _ _ _ _ _ _ | exact ih4 _ _ _ _ _ _ _ _ | exact LeO.refl _ | exact LeO.none _ | refine LeO.ite ?_ ?_ | refine LeO.bind ?_ (fun _ => ?_))
   | exact ih0 _ _ _ _ _
   | exact ih1 _ _ _ _
   | exact ih2 _ _ _ _ _
   | exact ih3 _ _ _ _ _ _ _ _
   | exact ih4 _ _ _ _ _ _ _ _
   | exact LeO.none _
   | refine LeO.ite ?_ ?_
   | refine LeO.bind ?_ (fun _ => ?_)
  ·intro y0 y1 y2 y3 y4
   unfold spec_beOrdered.l2
   repeat' first
   | (with_reducible first | exact ih0 _ _ _ _ _ | exact ih1 _ _ _ _ | exact ih2 _ _ _ _ _ | exact ih3 _ _ _ _ _ _ _ _ | exact ih4 _ _ _ _ _ _ _ _ | exact LeO.refl _ | exact LeO.none _ | refine LeO.ite ?_ ?_ | refine LeO.bind ?_ (fun _ => ?_))
   | exact ih0 _ _ _ _ _
   | exact ih1 _ _ _ _
   | exact ih2 _ _ _ _ _
   | exact ih3 _ _ _ _ _ _ _ _
   | exact ih4 _ _ _ _ _ _ _ _
   | exact LeO.none _
   | refine LeO.ite ?_ ?_
   | refine LeO.bind ?_ (fun _ => ?_)
  ·intro y0 y1 y2 y3 y4 y5 y6 y7
   unfold spec_beOrdered.l3
   repeat' first
   | (with_reducible first | exact ih0 _ _ _ _ _ | exact ih1 _ _ _ _ | exact ih2 _ _ _ _ _ | exact ih3 _ _ _ _ _ _ _ _ | exact ih4 _ _ _ _ _ _ _ _ | exact LeO.refl _ | exact LeO.none _ | refine LeO.ite ?_ ?_ | refine LeO.bind ?_ (fun _ => ?_))
   | exact ih0 _ _ _ _ _
   | exact ih1 _ _ _ _
   | exact ih2 _ _ _ _ _
   | exact ih3 _ _ _ _ _ _ _ _
   | exact ih4 _ _ _ _ _ _ _ _
   | exact LeO.none _
   | refine LeO.ite ?_ ?_
   | refine LeO.bind ?_ (fun _ => ?_)
  ·intro y0 y1 y2 y3 y4 y5 y6 y7
   unfold spec_beOrdered.l4
   repeat' first
   | (with_reducible first | exact ih0 _ _ _ _ _ | exact ih1 _ _ _ _ | exact ih2 _ _ _ _ _ | exact ih3 _ _ _ _ _ _ _ _ | exact ih4 _ _ _ _ _ _ _ _ | exact LeO.refl _ | exact LeO.none _ | refine LeO.ite ?_ ?_ | refine LeO.bind ?_ (fun _ => ?_))
   | exact ih0 _ _ _ _ _
   | exact ih1 _ _ _ _
   | exact ih2 _ _ _ _ _
   | exact ih3 _ _ _ _ _ _ _ _
   | exact ih4 _ _ _ _ _ _ _ _
   | exact LeO.none _
   | refine LeO.ite ?_ ?_
   | refine LeO.bind ?_ (fun _ => ?_)
theorem spec_beOrdered.mono : ∀ a0 k, LeO (spec_beOrdered.f k a0) (spec_beOrdered.f (k + 1) a0) := by
 intro a0 k
 obtain ⟨ih0, ih1, ih2, ih3, ih4⟩ := spec_beOrdered.mono_l k
 unfold spec_beOrdered.f
 repeat' first
   | (with_reducible first | exact ih0 _ _ _ _ _ | exact ih1 _ _ _ _ | exact ih2 _ _ _ _ _ | exact ih3 _ _ _ _ _ _ _ _ | exact ih4 _ _ _ _ _ _ _ _ | exact LeO.refl _ | exact LeO.none _ | refine LeO.ite ?_ ?_ | refine LeO.bind ?_ (fun _ => ?_))
   | exact ih0 _ _ _ _ _
   | exact ih1 _ _ _ _
   | exact ih2 _ _ _ _ _
   | exact ih3 _ _ _ _ _ _ _ _
   | exact ih4 _ _ _ _ _ _ _ _
   | exact LeO.none _
   | refine LeO.ite ?_ ?_
   | refine LeO.bind ?_ (fun _ => ?_)
set_option maxHeartbeats 8000000 in
set_option maxRecDepth 100000 in
theorem spec_beOrdered.calls (k : Nat) (A0 : Option Addr) (c0 : Nat) (l0 : List Int) (r : Int) (w : World) (hr0 : Kd.C (Kd.int .i64) w A0 l0.length l0) (hc0 : l0.length ≤ c0) (h : spec_beOrdered.f k l0 = some r) :
  Calls Try.prog 33 #[.slice A0 l0.length c0] w fun e w' => e = .returned (.int .i64 r) ∧ Below w.heap.size w w' := by
 have HR0 := Aside0.mk hr0
 have HC0 := Aside0.mk hc0
 clear hr0 hc0
 have HB := Aside0.mk (Below.refl w.heap.size w)
 have H : (if 0 ≤ (l0.length : Int) then (if ((l0.length : Int) : Int).toNat ≤ 11728124029610 then ((some (List.replicate ((l0.length : Int) : Int).toNat [] : List (List Int))).bind fun y203 => (spec_beOrdered.l0 k l0 (l0.length : Int) y203 (y203.length : Int) 0)) else (none)) else (none)) = some r := h
 clear h
 by_cases c2 : 0 ≤ (l0.length : Int)
 ·rw [if_pos c2] at H
  have c2b0 := eq_true c2
  have c2b1 : decide (0 ≤ (l0.length : Int)) = true := decide_eq_true c2
  clear c2
  by_cases c3 : ((l0.length : Int) : Int).toNat ≤ 11728124029610
  ·rw [if_pos c3] at H
   have c3b0 := eq_true c3
   have c3b1 : decide (((l0.length : Int) : Int).toNat ≤ 11728124029610) = true := decide_eq_true c3
   clear c3
   obtain ⟨y203, hy203⟩ : ∃ y_ : List (List Int), y_ = (List.replicate ((l0.length : Int) : Int).toNat []) := ⟨_, rfl⟩
   replace H : (spec_beOrdered.l0 k l0 (l0.length : Int) y203 (y203.length : Int) 0) = some r := by first | (rw [hy203]; with_reducible exact H) | (have H2_ := (Option.bind_some _ _).symm.trans H; rw [hy203]; with_reducible exact H2_) | (have H2_ := (Option.bind_some _ _).symm.trans H; with_reducible exact H2_) | with_reducible exact H | (rw [hy203]; exact H) | exact H
   have Ny203 := Aside0.mk hy203
   clear hy203
   have H' := Aside0.mk H
   clear H
   go_enter Try.func33, Try.ntmps33
   (try simp only [List.append_eq, List.cons_append, List.nil_append])
   go_wp2_with (first | ((with_reducible refine gate_dst (N := 16) rfl ?_); refine Kd.S_make (Kd.slice 3 (Kd.int .i64)) _ 24 rfl (N := 16) rfl 63 _ _ rfl (l0.length : Int) rfl rfl Try.underlying63 (.slice none 0 0) 24 info24 rfl (by decide) (by omega) [] (ok := fun _ => True) (okp := fun _ => True) ⟨_, rfl, Kd.R_nil _ _ _ _ _⟩ (fun _ hk => hk) trivial (zD) (Nat.le_trans (Nat.mul_le_mul_right _ (zD : (l0.length : Int).toNat ≤ 11728124029610)) (by omega)) (Below.refl _ _) (Nat.le_refl _) ?_; intro v204 w4 ho5 hb hg_ hnew_; clear hg_ hnew_; (first | rw [← Ny203.out] at ho5 | (simp only [Int.reduceToNat] at ho5; rw [← Ny203.out] at ho5)); have n0_ := Aside0.mk (Kd.S_lower ho5 (below_size (zB HB.out))); have n1_ := Aside0.mk (below_step (zB HB.out) hb); clear HB; have HO205 := n0_; have HB := n1_; clear n0_ n1_; clear hb ho5; obtain ⟨Ao6, co6, eo6⟩ := Kd.S_slice HO205.out; subst eo6))
   repeat (go_quiet (first | ((with_reducible refine gate_dst (N := 16) rfl ?_); refine Kd.S_make (Kd.slice 3 (Kd.int .i64)) _ 24 rfl (N := 16) rfl 63 _ _ rfl (l0.length : Int) rfl rfl Try.underlying63 (.slice none 0 0) 24 info24 rfl (by decide) (by omega) [] (ok := fun _ => True) (okp := fun _ => True) ⟨_, rfl, Kd.R_nil _ _ _ _ _⟩ (fun _ hk => hk) trivial (zD) (Nat.le_trans (Nat.mul_le_mul_right _ (zD : (l0.length : Int).toNat ≤ 11728124029610)) (by omega)) (Below.refl _ _) (Nat.le_refl _) ?_; intro v204 w4 ho5 hb hg_ hnew_; clear hg_ hnew_; (first | rw [← Ny203.out] at ho5 | (simp only [Int.reduceToNat] at ho5; rw [← Ny203.out] at ho5)); have n0_ := Aside0.mk (Kd.S_lower ho5 (below_size (zB HB.out))); have n1_ := Aside0.mk (below_step (zB HB.out) hb); clear HB; have HO205 := n0_; have HB := n1_; clear n0_ n1_; clear hb ho5; obtain ⟨Ao6, co6, eo6⟩ := Kd.S_slice HO205.out; subst eo6)); try go_wp2_with (first | ((with_reducible refine gate_dst (N := 16) rfl ?_); refine Kd.S_make (Kd.slice 3 (Kd.int .i64)) _ 24 rfl (N := 16) rfl 63 _ _ rfl (l0.length : Int) rfl rfl Try.underlying63 (.slice none 0 0) 24 info24 rfl (by decide) (by omega) [] (ok := fun _ => True) (okp := fun _ => True) ⟨_, rfl, Kd.R_nil _ _ _ _ _⟩ (fun _ hk => hk) trivial (zD) (Nat.le_trans (Nat.mul_le_mul_right _ (zD : (l0.length : Int).toNat ≤ 11728124029610)) (by omega)) (Below.refl _ _) (Nat.le_refl _) ?_; intro v204 w4 ho5 hb hg_ hnew_; clear hg_ hnew_; (first | rw [← Ny203.out] at ho5 | (simp only [Int.reduceToNat] at ho5; rw [← Ny203.out] at ho5)); have n0_ := Aside0.mk (Kd.S_lower ho5 (below_size (zB HB.out))); have n1_ := Aside0.mk (below_step (zB HB.out) hb); clear HB; have HO205 := n0_; have HB := n1_; clear n0_ n1_; clear hb ho5; obtain ⟨Ao6, co6, eo6⟩ := Kd.S_slice HO205.out; subst eo6)))
   go_loopg [19] k (fun kq v19 w' => ∃ (x4_1 : List (List Int)) (x19_1 : Int), v19 = .int .i64 x19_1 ∧ Aside0 (spec_beOrdered.l0 kq l0 (l0.length : Int) x4_1 (y203.length : Int) x19_1 = some r) ∧ Aside0 (kq ≤ k) ∧ Aside0 (Kd.S (Kd.slice 3 (Kd.int .i64)) 24 w' w.heap.size (fun _ => True) (.slice Ao6 y203.length co6) x4_1) ∧ Aside0 (Below w.heap.size w w'))
   case atStart => exact ⟨(y203), (0), zE1, H', ⟨Nat.le_refl _⟩, ⟨by (with_reducible repeat (first | apply Kd.S_alloc | apply Kd.S_drewN | apply Kd.S_drew)); exact HO205.out⟩, ⟨zB HB.out⟩⟩
   case round =>
    clear H'
    try clear c2
    try clear c2b0
    try clear c2b1
    try clear p2
    try clear c3
    try clear c3b0
    try clear c3b1
    obtain ⟨x4_1, x19_1, rfl, HA, HK1, HO_4, HB⟩ := hrel
    have hl4_1 := (Kd.S_reads' HO_4.out).1
    rw [hl4_1] at HO_4
    (try simp only [hl4_1])
    cases gk with
    | zero => exact absurd HA.out (by simp [spec_beOrdered.l0])
    | succ k1 =>
     have H := HA.out
     clear HA
     simp only [spec_beOrdered.l0] at H
     by_cases c7 : x19_1 < (y203.length : Int)
     ·rw [if_pos c7] at H
      have c7b0 : decide (x19_1 < (y203.length : Int)) = true := decide_eq_true c7
      (try (have c7h0 := c7b0; simp only [hl4_1] at c7h0))
      clear c7
      by_cases c8 : 0 ≤ (l0.length : Int)
      ·rw [if_pos c8] at H
       have c8b0 := eq_true c8
       have c8b1 : decide (0 ≤ (l0.length : Int)) = true := decide_eq_true c8
       clear c8
       by_cases c9 : ((l0.length : Int) : Int).toNat ≤ 35184372088832
       ·rw [if_pos c9] at H
        have c9b0 := eq_true c9
        have c9b1 : decide (((l0.length : Int) : Int).toNat ≤ 35184372088832) = true := decide_eq_true c9
        clear c9
        obtain ⟨y206, hy206⟩ : ∃ y_ : List Int, y_ = (List.replicate ((l0.length : Int) : Int).toNat 0) := ⟨_, rfl⟩
        replace H : (if 0 ≤ x19_1 then (if x19_1 < (x4_1.length : Int) then (spec_beOrdered.l0 k1 l0 (l0.length : Int) (x4_1.set (x19_1 : Int).toNat y206) (y203.length : Int) (wrap64 (x19_1 + 1))) else (none)) else (none)) = some r := by first | (rw [hy206]; with_reducible exact H) | (have H2_ := (Option.bind_some _ _).symm.trans H; rw [hy206]; with_reducible exact H2_) | (have H2_ := (Option.bind_some _ _).symm.trans H; with_reducible exact H2_) | with_reducible exact H | (rw [hy206]; exact H) | exact H
        have Ny206 := Aside0.mk hy206
        clear hy206
        by_cases c10 : 0 ≤ x19_1
        ·rw [if_pos c10] at H
         have c10b0 : decide (0 ≤ x19_1) = true := decide_eq_true c10
         (try (have c10h0 := c10b0; simp only [hl4_1] at c10h0))
         clear c10
         by_cases c11 : x19_1 < (x4_1.length : Int)
         ·rw [if_pos c11] at H
          have c11b0 : decide (x19_1 < (x4_1.length : Int)) = true := decide_eq_true c11
          (try (have c11h0 := c11b0; simp only [hl4_1] at c11h0))
          clear c11
          obtain ⟨y209, hy209⟩ : ∃ y_ : List (List Int), y_ = (x4_1.set (x19_1 : Int).toNat y206) := ⟨_, rfl⟩
          replace H : (spec_beOrdered.l0 k1 l0 (l0.length : Int) y209 (y203.length : Int) (wrap64 (x19_1 + 1))) = some r := by first | (rw [hy209]; with_reducible exact H) | (have H2_ := (Option.bind_some _ _).symm.trans H; rw [hy209]; with_reducible exact H2_) | (have H2_ := (Option.bind_some _ _).symm.trans H; with_reducible exact H2_) | with_reducible exact H | (rw [hy209]; exact H) | exact H
          have Ny209 := Aside0.mk hy209
          clear hy209
          have H' := Aside0.mk H
          clear H
          go_wp2_with (first | ((with_reducible refine gate_dst (N := 25) rfl ?_); refine Kd.R_make (Kd.int .i64) _ 3 rfl (N := 25) rfl 24 _ _ rfl (l0.length : Int) rfl rfl Try.underlying24 (.int .i64 0) 8 info3 rfl (by decide) (by omega) 0 (ok := fun _ => True) (okp := fun _ => True) rfl (fun _ hk => hk) trivial (zD) (Nat.le_trans (Nat.mul_le_mul_right _ (zD : (l0.length : Int).toNat ≤ 35184372088832)) (by omega)) (Below.refl _ _) (Nat.le_refl _) ?_; intro v207 w13 ho14 hb hg_ hnew_; clear hg_ hnew_; (first | rw [← Ny206.out] at ho14 | (simp only [Int.reduceToNat] at ho14; rw [← Ny206.out] at ho14)); have n0_ := Aside0.mk (Kd.S_elder' (by (with_reducible repeat (first | apply Kd.S_alloc | apply Kd.S_drewN | apply Kd.S_drew)); exact HO_4.out) (Kd.R_base ho14) hb); have n1_ := Aside0.mk (Kd.R_lower ho14 (below_size (zB HB.out))); have n2_ := Aside0.mk (below_step (zB HB.out) hb); clear HO_4; clear HB; have HO_4 := n0_; have HO208 := n1_; have HB := n2_; clear n0_ n1_ n2_; clear hb ho14; have p12 : 0 ≤ (x19_1 : Int) := zD; have q12 : (x19_1 : Int) < ((x4_1.length : Int) : Int) := zD; obtain ⟨go12, co12, eo12, gb12, gl12, cl12, HG12⟩ := Kd.S_form HO_4.out (by omega); (first | cases eo12 | (injection eo12 with ea_ en_ ec_; (first | subst ea_ | (injection ea_ with ea_; subst ea_)); subst ec_; clear en_)); have GB12 := Aside0.mk gb12; have GG12 := Aside0.mk HG12; clear gb12 gl12 HG12; obtain ⟨_, ce12, hcl12, hM12, hcc12, hfr12, _, _⟩ := Kd.S_elem HO_4.out [] (x19_1 : Int) p12 q12; obtain ⟨ve12_0, rfl, ge12_0⟩ := hM12; have hx12_0 := hcc12 0 _ rfl; have hf12_0 := hfr12 0; (try simp only [show ((Kd.slice 3 (Kd.int .i64))).sz = 1 from rfl, Nat.mul_one, Nat.add_zero] at hx12_0); (try simp only [show ((Kd.slice 3 (Kd.int .i64))).sz = 1 from rfl, Nat.mul_one, Nat.add_zero] at hf12_0); (try clear hM12); clear hcl12 hcc12 hfr12; replace p12 := eq_true p12; replace q12 := eq_true q12; obtain ⟨Ao15, co15, eo15⟩ := Kd.R_slice HO208.out; subst eo15; have n_ := Aside0.mk (Kd.S_mono (ok' := (fun k_ => some k_ ≠ (.slice Ao15 y206.length co15 : Value).ownBlock)) HO_4.out (fun k_ hk => hk.2)); clear HO_4; have HO_4 := n_; clear n_; have HX16 := Aside0.mk (show Kd.S (Kd.slice 3 (Kd.int .i64)) 24 w13 w.heap.size (fun k_ => ((fun _ => True)) k_ ∧ ¬ ((fun k_ => some k_ = (.slice Ao15 y206.length co15 : Value).ownBlock)) k_) (.slice (some ⟨go12, 0, none⟩) x4_1.length co6) x4_1 from (by (with_reducible repeat (first | apply Kd.S_alloc | apply Kd.S_drewN | apply Kd.S_drew)); exact Kd.S_mono HO_4.out (fun k_ hk => ⟨trivial, fun e_ => hk e_⟩))); obtain ⟨oki16, ce16, hcl16, hM16, hcc16, hfr16, hoki16, hH16⟩ := Kd.S_elem HX16.out [] (x19_1 : Int) (zD) (by have h_ : (x19_1 : Int) < ((x4_1.length : Int) : Int) := zD; first | exact h_ | (have e_ := (Kd.S_reads' HO_4.out).1; omega) | simpa using h_); obtain ⟨ve16_0, rfl, ge16_0⟩ := hM16; have HP16 := Kd.S_seg hH16 (zD) (by have h_ : (x19_1 : Int) < ((x4_1.length : Int) : Int) := zD; first | exact h_ | (have e_ := (Kd.S_reads' HO_4.out).1; omega) | simpa using h_) (seg := [.slice Ao15 y206.length co15]) (j := 0) (show 1 ≤ 1 from by decide) (x' := y206) (Kd.M_row (Kd.R_mono (Kd.R_tight rfl (Kd.R_mono (ok' := fun k_ => ((fun _ => True)) k_ ∧ k_ ≠ go12) (Kd.R_apart' (HO208.out) (Kd.S_typed HO_4.out) (by decide)) (fun k_ hk => ⟨trivial, fun e_ => (hk.2) (by rw [e_]; rfl)⟩))) (fun _ h_ => Or.inr (h_)))) (fun _ hk => hk) (fun k_ hk_ => ((Kd.R_mono (ok' := fun k_ => ((fun _ => True)) k_ ∧ k_ ≠ go12) (Kd.R_apart' (HO208.out) (Kd.S_typed HO_4.out) (by decide)) (fun k_ hk => ⟨trivial, fun e_ => (hk.2) (by rw [e_]; rfl)⟩))).1 k_ hk_.symm); have hx16_0 := hcc16 0 _ rfl; (try simp only [show ((Kd.slice 3 (Kd.int .i64))).sz = 1 from rfl, Nat.mul_one, Nat.add_zero] at hx16_0); have hf16_0 := hfr16 0; (try simp only [show ((Kd.slice 3 (Kd.int .i64))).sz = 1 from rfl, Nat.mul_one, Nat.add_zero] at hf16_0); (try clear hM16); clear hcl16 hcc16 hfr16 hoki16 hH16; (try simp only [show ((Kd.slice 3 (Kd.int .i64))).sz = 1 from rfl, Nat.mul_one, Nat.add_zero] at HP16)) | ((with_reducible refine gate_store (t := 24) (p := 26) rfl ?_); (try (rw [drewN_self w13]; generalize hq_ : World.drewN w13 _ = w13; have n0_ := Aside0.mk (Kd.S_at hq_ HO_4.out); have n1_ := Aside0.mk (below_at hq_ HB.out); clear hq_ HO_4 HB; have HO_4 := n0_; have HB := n1_; clear n0_ n1_; (try (obtain ⟨Ao15, co15, eo15⟩ := Kd.R_slice HO208.out)); (try (subst eo15)); (try (have n_ := Aside0.mk (Kd.S_mono (ok' := (fun k_ => some k_ ≠ (.slice Ao15 y206.length co15 : Value).ownBlock)) HO_4.out (fun k_ hk => hk.2)); clear HO_4; have HO_4 := n_; clear n_)); (try (have HX16 := Aside0.mk (show Kd.S (Kd.slice 3 (Kd.int .i64)) 24 w13 w.heap.size (fun k_ => ((fun _ => True)) k_ ∧ ¬ ((fun k_ => some k_ = (.slice Ao15 y206.length co15 : Value).ownBlock)) k_) (.slice (some ⟨go12, 0, none⟩) x4_1.length co6) x4_1 from (by (with_reducible repeat (first | apply Kd.S_alloc | apply Kd.S_drewN | apply Kd.S_drew)); exact Kd.S_mono HO_4.out (fun k_ hk => ⟨trivial, fun e_ => hk e_⟩))))); (try (obtain ⟨oki16, ce16, hcl16, hM16, hcc16, hfr16, hoki16, hH16⟩ := Kd.S_elem HX16.out [] (x19_1 : Int) (zD) (by have h_ : (x19_1 : Int) < ((x4_1.length : Int) : Int) := zD; first | exact h_ | (have e_ := (Kd.S_reads' HO_4.out).1; omega) | simpa using h_))); (try (obtain ⟨ve16_0, rfl, ge16_0⟩ := hM16)); (try (have HP16 := Kd.S_seg hH16 (zD) (by have h_ : (x19_1 : Int) < ((x4_1.length : Int) : Int) := zD; first | exact h_ | (have e_ := (Kd.S_reads' HO_4.out).1; omega) | simpa using h_) (seg := [.slice Ao15 y206.length co15]) (j := 0) (show 1 ≤ 1 from by decide) (x' := y206) (Kd.M_row (Kd.R_mono (Kd.R_tight rfl (Kd.R_mono (ok' := fun k_ => ((fun _ => True)) k_ ∧ k_ ≠ go12) (Kd.R_apart' (HO208.out) (Kd.S_typed HO_4.out) (by decide)) (fun k_ hk => ⟨trivial, fun e_ => (hk.2) (by rw [e_]; rfl)⟩))) (fun _ h_ => Or.inr (h_)))) (fun _ hk => hk) (fun k_ hk_ => ((Kd.R_mono (ok' := fun k_ => ((fun _ => True)) k_ ∧ k_ ≠ go12) (Kd.R_apart' (HO208.out) (Kd.S_typed HO_4.out) (by decide)) (fun k_ hk => ⟨trivial, fun e_ => (hk.2) (by rw [e_]; rfl)⟩))).1 k_ hk_.symm))); (try (have hx16_0 := hcc16 0 _ rfl)); (try (try simp only [show ((Kd.slice 3 (Kd.int .i64))).sz = 1 from rfl, Nat.mul_one, Nat.add_zero] at hx16_0)); (try (have hf16_0 := hfr16 0)); (try (try simp only [show ((Kd.slice 3 (Kd.int .i64))).sz = 1 from rfl, Nat.mul_one, Nat.add_zero] at hf16_0)); (try ((try clear hM16); clear hcl16 hcc16 hfr16 hoki16 hH16)); (try (try simp only [show ((Kd.slice 3 (Kd.int .i64))).sz = 1 from rfl, Nat.mul_one, Nat.add_zero] at HP16)))); refine store_event (t := 24) (p := 26) (v := ?vo_w17) (w1 := (w13.setCell ⟨go12, (x19_1 : Int).toNat, none⟩ (.slice Ao15 y206.length co15))) ?hg ?ho ?hn ?hr ?_; (case ho => rfl); (case hg => rfl); (case hn => rfl); (case hr => first | (go_simp; done) | (go_simp; rfl)); intro w17 hw; have hg : w13.grownBy w17 (some go12) := (by rw [hw]; exact HP16.2); have hp_ : Kd.S (Kd.slice 3 (Kd.int .i64)) 24 w17 w.heap.size (fun _ => True) (.slice (some ⟨go12, 0, none⟩) x4_1.length co6) y209 := (by rw [hw, Ny209.out]; exact HP16.1); clear HP16; have n0_ := Aside0.mk (hp_); have n1_ := Aside0.mk ((by rw [hw]; exact below_set (HB.out) GB12.out : Below w.heap.size w w17)); clear HO_4; clear HB; clear HO208; have HO_4 := n0_; have HB := n1_; clear n0_ n1_; clear hg hw hp_))
          repeat (go_quiet (first | ((with_reducible refine gate_dst (N := 25) rfl ?_); refine Kd.R_make (Kd.int .i64) _ 3 rfl (N := 25) rfl 24 _ _ rfl (l0.length : Int) rfl rfl Try.underlying24 (.int .i64 0) 8 info3 rfl (by decide) (by omega) 0 (ok := fun _ => True) (okp := fun _ => True) rfl (fun _ hk => hk) trivial (zD) (Nat.le_trans (Nat.mul_le_mul_right _ (zD : (l0.length : Int).toNat ≤ 35184372088832)) (by omega)) (Below.refl _ _) (Nat.le_refl _) ?_; intro v207 w13 ho14 hb hg_ hnew_; clear hg_ hnew_; (first | rw [← Ny206.out] at ho14 | (simp only [Int.reduceToNat] at ho14; rw [← Ny206.out] at ho14)); have n0_ := Aside0.mk (Kd.S_elder' (by (with_reducible repeat (first | apply Kd.S_alloc | apply Kd.S_drewN | apply Kd.S_drew)); exact HO_4.out) (Kd.R_base ho14) hb); have n1_ := Aside0.mk (Kd.R_lower ho14 (below_size (zB HB.out))); have n2_ := Aside0.mk (below_step (zB HB.out) hb); clear HO_4; clear HB; have HO_4 := n0_; have HO208 := n1_; have HB := n2_; clear n0_ n1_ n2_; clear hb ho14; have p12 : 0 ≤ (x19_1 : Int) := zD; have q12 : (x19_1 : Int) < ((x4_1.length : Int) : Int) := zD; obtain ⟨go12, co12, eo12, gb12, gl12, cl12, HG12⟩ := Kd.S_form HO_4.out (by omega); (first | cases eo12 | (injection eo12 with ea_ en_ ec_; (first | subst ea_ | (injection ea_ with ea_; subst ea_)); subst ec_; clear en_)); have GB12 := Aside0.mk gb12; have GG12 := Aside0.mk HG12; clear gb12 gl12 HG12; obtain ⟨_, ce12, hcl12, hM12, hcc12, hfr12, _, _⟩ := Kd.S_elem HO_4.out [] (x19_1 : Int) p12 q12; obtain ⟨ve12_0, rfl, ge12_0⟩ := hM12; have hx12_0 := hcc12 0 _ rfl; have hf12_0 := hfr12 0; (try simp only [show ((Kd.slice 3 (Kd.int .i64))).sz = 1 from rfl, Nat.mul_one, Nat.add_zero] at hx12_0); (try simp only [show ((Kd.slice 3 (Kd.int .i64))).sz = 1 from rfl, Nat.mul_one, Nat.add_zero] at hf12_0); (try clear hM12); clear hcl12 hcc12 hfr12; replace p12 := eq_true p12; replace q12 := eq_true q12; obtain ⟨Ao15, co15, eo15⟩ := Kd.R_slice HO208.out; subst eo15; have n_ := Aside0.mk (Kd.S_mono (ok' := (fun k_ => some k_ ≠ (.slice Ao15 y206.length co15 : Value).ownBlock)) HO_4.out (fun k_ hk => hk.2)); clear HO_4; have HO_4 := n_; clear n_; have HX16 := Aside0.mk (show Kd.S (Kd.slice 3 (Kd.int .i64)) 24 w13 w.heap.size (fun k_ => ((fun _ => True)) k_ ∧ ¬ ((fun k_ => some k_ = (.slice Ao15 y206.length co15 : Value).ownBlock)) k_) (.slice (some ⟨go12, 0, none⟩) x4_1.length co6) x4_1 from (by (with_reducible repeat (first | apply Kd.S_alloc | apply Kd.S_drewN | apply Kd.S_drew)); exact Kd.S_mono HO_4.out (fun k_ hk => ⟨trivial, fun e_ => hk e_⟩))); obtain ⟨oki16, ce16, hcl16, hM16, hcc16, hfr16, hoki16, hH16⟩ := Kd.S_elem HX16.out [] (x19_1 : Int) (zD) (by have h_ : (x19_1 : Int) < ((x4_1.length : Int) : Int) := zD; first | exact h_ | (have e_ := (Kd.S_reads' HO_4.out).1; omega) | simpa using h_); obtain ⟨ve16_0, rfl, ge16_0⟩ := hM16; have HP16 := Kd.S_seg hH16 (zD) (by have h_ : (x19_1 : Int) < ((x4_1.length : Int) : Int) := zD; first | exact h_ | (have e_ := (Kd.S_reads' HO_4.out).1; omega) | simpa using h_) (seg := [.slice Ao15 y206.length co15]) (j := 0) (show 1 ≤ 1 from by decide) (x' := y206) (Kd.M_row (Kd.R_mono (Kd.R_tight rfl (Kd.R_mono (ok' := fun k_ => ((fun _ => True)) k_ ∧ k_ ≠ go12) (Kd.R_apart' (HO208.out) (Kd.S_typed HO_4.out) (by decide)) (fun k_ hk => ⟨trivial, fun e_ => (hk.2) (by rw [e_]; rfl)⟩))) (fun _ h_ => Or.inr (h_)))) (fun _ hk => hk) (fun k_ hk_ => ((Kd.R_mono (ok' := fun k_ => ((fun _ => True)) k_ ∧ k_ ≠ go12) (Kd.R_apart' (HO208.out) (Kd.S_typed HO_4.out) (by decide)) (fun k_ hk => ⟨trivial, fun e_ => (hk.2) (by rw [e_]; rfl)⟩))).1 k_ hk_.symm); have hx16_0 := hcc16 0 _ rfl; (try simp only [show ((Kd.slice 3 (Kd.int .i64))).sz = 1 from rfl, Nat.mul_one, Nat.add_zero] at hx16_0); have hf16_0 := hfr16 0; (try simp only [show ((Kd.slice 3 (Kd.int .i64))).sz = 1 from rfl, Nat.mul_one, Nat.add_zero] at hf16_0); (try clear hM16); clear hcl16 hcc16 hfr16 hoki16 hH16; (try simp only [show ((Kd.slice 3 (Kd.int .i64))).sz = 1 from rfl, Nat.mul_one, Nat.add_zero] at HP16)) | ((with_reducible refine gate_store (t := 24) (p := 26) rfl ?_); (try (rw [drewN_self w13]; generalize hq_ : World.drewN w13 _ = w13; have n0_ := Aside0.mk (Kd.S_at hq_ HO_4.out); have n1_ := Aside0.mk (below_at hq_ HB.out); clear hq_ HO_4 HB; have HO_4 := n0_; have HB := n1_; clear n0_ n1_; (try (obtain ⟨Ao15, co15, eo15⟩ := Kd.R_slice HO208.out)); (try (subst eo15)); (try (have n_ := Aside0.mk (Kd.S_mono (ok' := (fun k_ => some k_ ≠ (.slice Ao15 y206.length co15 : Value).ownBlock)) HO_4.out (fun k_ hk => hk.2)); clear HO_4; have HO_4 := n_; clear n_)); (try (have HX16 := Aside0.mk (show Kd.S (Kd.slice 3 (Kd.int .i64)) 24 w13 w.heap.size (fun k_ => ((fun _ => True)) k_ ∧ ¬ ((fun k_ => some k_ = (.slice Ao15 y206.length co15 : Value).ownBlock)) k_) (.slice (some ⟨go12, 0, none⟩) x4_1.length co6) x4_1 from (by (with_reducible repeat (first | apply Kd.S_alloc | apply Kd.S_drewN | apply Kd.S_drew)); exact Kd.S_mono HO_4.out (fun k_ hk => ⟨trivial, fun e_ => hk e_⟩))))); (try (obtain ⟨oki16, ce16, hcl16, hM16, hcc16, hfr16, hoki16, hH16⟩ := Kd.S_elem HX16.out [] (x19_1 : Int) (zD) (by have h_ : (x19_1 : Int) < ((x4_1.length : Int) : Int) := zD; first | exact h_ | (have e_ := (Kd.S_reads' HO_4.out).1; omega) | simpa using h_))); (try (obtain ⟨ve16_0, rfl, ge16_0⟩ := hM16)); (try (have HP16 := Kd.S_seg hH16 (zD) (by have h_ : (x19_1 : Int) < ((x4_1.length : Int) : Int) := zD; first | exact h_ | (have e_ := (Kd.S_reads' HO_4.out).1; omega) | simpa using h_) (seg := [.slice Ao15 y206.length co15]) (j := 0) (show 1 ≤ 1 from by decide) (x' := y206) (Kd.M_row (Kd.R_mono (Kd.R_tight rfl (Kd.R_mono (ok' := fun k_ => ((fun _ => True)) k_ ∧ k_ ≠ go12) (Kd.R_apart' (HO208.out) (Kd.S_typed HO_4.out) (by decide)) (fun k_ hk => ⟨trivial, fun e_ => (hk.2) (by rw [e_]; rfl)⟩))) (fun _ h_ => Or.inr (h_)))) (fun _ hk => hk) (fun k_ hk_ => ((Kd.R_mono (ok' := fun k_ => ((fun _ => True)) k_ ∧ k_ ≠ go12) (Kd.R_apart' (HO208.out) (Kd.S_typed HO_4.out) (by decide)) (fun k_ hk => ⟨trivial, fun e_ => (hk.2) (by rw [e_]; rfl)⟩))).1 k_ hk_.symm))); (try (have hx16_0 := hcc16 0 _ rfl)); (try (try simp only [show ((Kd.slice 3 (Kd.int .i64))).sz = 1 from rfl, Nat.mul_one, Nat.add_zero] at hx16_0)); (try (have hf16_0 := hfr16 0)); (try (try simp only [show ((Kd.slice 3 (Kd.int .i64))).sz = 1 from rfl, Nat.mul_one, Nat.add_zero] at hf16_0)); (try ((try clear hM16); clear hcl16 hcc16 hfr16 hoki16 hH16)); (try (try simp only [show ((Kd.slice 3 (Kd.int .i64))).sz = 1 from rfl, Nat.mul_one, Nat.add_zero] at HP16)))); refine store_event (t := 24) (p := 26) (v := ?vo_w17) (w1 := (w13.setCell ⟨go12, (x19_1 : Int).toNat, none⟩ (.slice Ao15 y206.length co15))) ?hg ?ho ?hn ?hr ?_; (case ho => rfl); (case hg => rfl); (case hn => rfl); (case hr => first | (go_simp; done) | (go_simp; rfl)); intro w17 hw; have hg : w13.grownBy w17 (some go12) := (by rw [hw]; exact HP16.2); have hp_ : Kd.S (Kd.slice 3 (Kd.int .i64)) 24 w17 w.heap.size (fun _ => True) (.slice (some ⟨go12, 0, none⟩) x4_1.length co6) y209 := (by rw [hw, Ny209.out]; exact HP16.1); clear HP16; have n0_ := Aside0.mk (hp_); have n1_ := Aside0.mk ((by rw [hw]; exact below_set (HB.out) GB12.out : Below w.heap.size w w17)); clear HO_4; clear HB; clear HO208; have HO_4 := n0_; have HB := n1_; clear n0_ n1_; clear hg hw hp_)); try go_wp2_with (first | ((with_reducible refine gate_dst (N := 25) rfl ?_); refine Kd.R_make (Kd.int .i64) _ 3 rfl (N := 25) rfl 24 _ _ rfl (l0.length : Int) rfl rfl Try.underlying24 (.int .i64 0) 8 info3 rfl (by decide) (by omega) 0 (ok := fun _ => True) (okp := fun _ => True) rfl (fun _ hk => hk) trivial (zD) (Nat.le_trans (Nat.mul_le_mul_right _ (zD : (l0.length : Int).toNat ≤ 35184372088832)) (by omega)) (Below.refl _ _) (Nat.le_refl _) ?_; intro v207 w13 ho14 hb hg_ hnew_; clear hg_ hnew_; (first | rw [← Ny206.out] at ho14 | (simp only [Int.reduceToNat] at ho14; rw [← Ny206.out] at ho14)); have n0_ := Aside0.mk (Kd.S_elder' (by (with_reducible repeat (first | apply Kd.S_alloc | apply Kd.S_drewN | apply Kd.S_drew)); exact HO_4.out) (Kd.R_base ho14) hb); have n1_ := Aside0.mk (Kd.R_lower ho14 (below_size (zB HB.out))); have n2_ := Aside0.mk (below_step (zB HB.out) hb); clear HO_4; clear HB; have HO_4 := n0_; have HO208 := n1_; have HB := n2_; clear n0_ n1_ n2_; clear hb ho14; have p12 : 0 ≤ (x19_1 : Int) := zD; have q12 : (x19_1 : Int) < ((x4_1.length : Int) : Int) := zD; obtain ⟨go12, co12, eo12, gb12, gl12, cl12, HG12⟩ := Kd.S_form HO_4.out (by omega); (first | cases eo12 | (injection eo12 with ea_ en_ ec_; (first | subst ea_ | (injection ea_ with ea_; subst ea_)); subst ec_; clear en_)); have GB12 := Aside0.mk gb12; have GG12 := Aside0.mk HG12; clear gb12 gl12 HG12; obtain ⟨_, ce12, hcl12, hM12, hcc12, hfr12, _, _⟩ := Kd.S_elem HO_4.out [] (x19_1 : Int) p12 q12; obtain ⟨ve12_0, rfl, ge12_0⟩ := hM12; have hx12_0 := hcc12 0 _ rfl; have hf12_0 := hfr12 0; (try simp only [show ((Kd.slice 3 (Kd.int .i64))).sz = 1 from rfl, Nat.mul_one, Nat.add_zero] at hx12_0); (try simp only [show ((Kd.slice 3 (Kd.int .i64))).sz = 1 from rfl, Nat.mul_one, Nat.add_zero] at hf12_0); (try clear hM12); clear hcl12 hcc12 hfr12; replace p12 := eq_true p12; replace q12 := eq_true q12; obtain ⟨Ao15, co15, eo15⟩ := Kd.R_slice HO208.out; subst eo15; have n_ := Aside0.mk (Kd.S_mono (ok' := (fun k_ => some k_ ≠ (.slice Ao15 y206.length co15 : Value).ownBlock)) HO_4.out (fun k_ hk => hk.2)); clear HO_4; have HO_4 := n_; clear n_; have HX16 := Aside0.mk (show Kd.S (Kd.slice 3 (Kd.int .i64)) 24 w13 w.heap.size (fun k_ => ((fun _ => True)) k_ ∧ ¬ ((fun k_ => some k_ = (.slice Ao15 y206.length co15 : Value).ownBlock)) k_) (.slice (some ⟨go12, 0, none⟩) x4_1.length co6) x4_1 from (by (with_reducible repeat (first | apply Kd.S_alloc | apply Kd.S_drewN | apply Kd.S_drew)); exact Kd.S_mono HO_4.out (fun k_ hk => ⟨trivial, fun e_ => hk e_⟩))); obtain ⟨oki16, ce16, hcl16, hM16, hcc16, hfr16, hoki16, hH16⟩ := Kd.S_elem HX16.out [] (x19_1 : Int) (zD) (by have h_ : (x19_1 : Int) < ((x4_1.length : Int) : Int) := zD; first | exact h_ | (have e_ := (Kd.S_reads' HO_4.out).1; omega) | simpa using h_); obtain ⟨ve16_0, rfl, ge16_0⟩ := hM16; have HP16 := Kd.S_seg hH16 (zD) (by have h_ : (x19_1 : Int) < ((x4_1.length : Int) : Int) := zD; first | exact h_ | (have e_ := (Kd.S_reads' HO_4.out).1; omega) | simpa using h_) (seg := [.slice Ao15 y206.length co15]) (j := 0) (show 1 ≤ 1 from by decide) (x' := y206) (Kd.M_row (Kd.R_mono (Kd.R_tight rfl (Kd.R_mono (ok' := fun k_ => ((fun _ => True)) k_ ∧ k_ ≠ go12) (Kd.R_apart' (HO208.out) (Kd.S_typed HO_4.out) (by decide)) (fun k_ hk => ⟨trivial, fun e_ => (hk.2) (by rw [e_]; rfl)⟩))) (fun _ h_ => Or.inr (h_)))) (fun _ hk => hk) (fun k_ hk_ => ((Kd.R_mono (ok' := fun k_ => ((fun _ => True)) k_ ∧ k_ ≠ go12) (Kd.R_apart' (HO208.out) (Kd.S_typed HO_4.out) (by decide)) (fun k_ hk => ⟨trivial, fun e_ => (hk.2) (by rw [e_]; rfl)⟩))).1 k_ hk_.symm); have hx16_0 := hcc16 0 _ rfl; (try simp only [show ((Kd.slice 3 (Kd.int .i64))).sz = 1 from rfl, Nat.mul_one, Nat.add_zero] at hx16_0); have hf16_0 := hfr16 0; (try simp only [show ((Kd.slice 3 (Kd.int .i64))).sz = 1 from rfl, Nat.mul_one, Nat.add_zero] at hf16_0); (try clear hM16); clear hcl16 hcc16 hfr16 hoki16 hH16; (try simp only [show ((Kd.slice 3 (Kd.int .i64))).sz = 1 from rfl, Nat.mul_one, Nat.add_zero] at HP16)) | ((with_reducible refine gate_store (t := 24) (p := 26) rfl ?_); (try (rw [drewN_self w13]; generalize hq_ : World.drewN w13 _ = w13; have n0_ := Aside0.mk (Kd.S_at hq_ HO_4.out); have n1_ := Aside0.mk (below_at hq_ HB.out); clear hq_ HO_4 HB; have HO_4 := n0_; have HB := n1_; clear n0_ n1_; (try (obtain ⟨Ao15, co15, eo15⟩ := Kd.R_slice HO208.out)); (try (subst eo15)); (try (have n_ := Aside0.mk (Kd.S_mono (ok' := (fun k_ => some k_ ≠ (.slice Ao15 y206.length co15 : Value).ownBlock)) HO_4.out (fun k_ hk => hk.2)); clear HO_4; have HO_4 := n_; clear n_)); (try (have HX16 := Aside0.mk (show Kd.S (Kd.slice 3 (Kd.int .i64)) 24 w13 w.heap.size (fun k_ => ((fun _ => True)) k_ ∧ ¬ ((fun k_ => some k_ = (.slice Ao15 y206.length co15 : Value).ownBlock)) k_) (.slice (some ⟨go12, 0, none⟩) x4_1.length co6) x4_1 from (by (with_reducible repeat (first | apply Kd.S_alloc | apply Kd.S_drewN | apply Kd.S_drew)); exact Kd.S_mono HO_4.out (fun k_ hk => ⟨trivial, fun e_ => hk e_⟩))))); (try (obtain ⟨oki16, ce16, hcl16, hM16, hcc16, hfr16, hoki16, hH16⟩ := Kd.S_elem HX16.out [] (x19_1 : Int) (zD) (by have h_ : (x19_1 : Int) < ((x4_1.length : Int) : Int) := zD; first | exact h_ | (have e_ := (Kd.S_reads' HO_4.out).1; omega) | simpa using h_))); (try (obtain ⟨ve16_0, rfl, ge16_0⟩ := hM16)); (try (have HP16 := Kd.S_seg hH16 (zD) (by have h_ : (x19_1 : Int) < ((x4_1.length : Int) : Int) := zD; first | exact h_ | (have e_ := (Kd.S_reads' HO_4.out).1; omega) | simpa using h_) (seg := [.slice Ao15 y206.length co15]) (j := 0) (show 1 ≤ 1 from by decide) (x' := y206) (Kd.M_row (Kd.R_mono (Kd.R_tight rfl (Kd.R_mono (ok' := fun k_ => ((fun _ => True)) k_ ∧ k_ ≠ go12) (Kd.R_apart' (HO208.out) (Kd.S_typed HO_4.out) (by decide)) (fun k_ hk => ⟨trivial, fun e_ => (hk.2) (by rw [e_]; rfl)⟩))) (fun _ h_ => Or.inr (h_)))) (fun _ hk => hk) (fun k_ hk_ => ((Kd.R_mono (ok' := fun k_ => ((fun _ => True)) k_ ∧ k_ ≠ go12) (Kd.R_apart' (HO208.out) (Kd.S_typed HO_4.out) (by decide)) (fun k_ hk => ⟨trivial, fun e_ => (hk.2) (by rw [e_]; rfl)⟩))).1 k_ hk_.symm))); (try (have hx16_0 := hcc16 0 _ rfl)); (try (try simp only [show ((Kd.slice 3 (Kd.int .i64))).sz = 1 from rfl, Nat.mul_one, Nat.add_zero] at hx16_0)); (try (have hf16_0 := hfr16 0)); (try (try simp only [show ((Kd.slice 3 (Kd.int .i64))).sz = 1 from rfl, Nat.mul_one, Nat.add_zero] at hf16_0)); (try ((try clear hM16); clear hcl16 hcc16 hfr16 hoki16 hH16)); (try (try simp only [show ((Kd.slice 3 (Kd.int .i64))).sz = 1 from rfl, Nat.mul_one, Nat.add_zero] at HP16)))); refine store_event (t := 24) (p := 26) (v := ?vo_w17) (w1 := (w13.setCell ⟨go12, (x19_1 : Int).toNat, none⟩ (.slice Ao15 y206.length co15))) ?hg ?ho ?hn ?hr ?_; (case ho => rfl); (case hg => rfl); (case hn => rfl); (case hr => first | (go_simp; done) | (go_simp; rfl)); intro w17 hw; have hg : w13.grownBy w17 (some go12) := (by rw [hw]; exact HP16.2); have hp_ : Kd.S (Kd.slice 3 (Kd.int .i64)) 24 w17 w.heap.size (fun _ => True) (.slice (some ⟨go12, 0, none⟩) x4_1.length co6) y209 := (by rw [hw, Ny209.out]; exact HP16.1); clear HP16; have n0_ := Aside0.mk (hp_); have n1_ := Aside0.mk ((by rw [hw]; exact below_set (HB.out) GB12.out : Below w.heap.size w w17)); clear HO_4; clear HB; clear HO208; have HO_4 := n0_; have HB := n1_; clear n0_ n1_; clear hg hw hp_)))
          (try simp only [← hl4_1])
          go_roundg k1
          case measure => have := HK1.out; omega
          case rel => exact ⟨(y209), (wrap64 (x19_1 + 1)), zE1, H', ⟨by have := HK1.out; omega⟩, ⟨by (try simp only [hl4_1]); (with_reducible repeat (first | apply Kd.S_alloc | apply Kd.S_drewN | apply Kd.S_drew)); exact HO_4.out⟩, ⟨zB HB.out⟩⟩
         ·rw [if_neg c11] at H
          exact absurd H (by simp)
        ·rw [if_neg c10] at H
         exact absurd H (by simp)
       ·rw [if_neg c9] at H
        exact absurd H (by simp)
      ·rw [if_neg c8] at H
       exact absurd H (by simp)
     ·rw [if_neg c7] at H
      have c7b0 : decide (x19_1 < (y203.length : Int)) = false := decide_eq_false c7
      (try (have c7h0 := c7b0; simp only [hl4_1] at c7h0))
      clear c7
      have H' := Aside0.mk H
      clear H
      go_wp2
      repeat (go_quiet (fail); try go_wp2)
      go_loopg [6] k1 (fun kq v6 w' => ∃ (x4_2 : List (List Int)) (x6_2 : Int), v6 = .int .i64 x6_2 ∧ Aside0 (spec_beOrdered.l1 kq l0 (l0.length : Int) x4_2 x6_2 = some r) ∧ Aside0 (kq ≤ k1) ∧ Aside0 (Kd.S (Kd.slice 3 (Kd.int .i64)) 24 w' w.heap.size (fun _ => True) (.slice Ao6 x4_1.length co6) x4_2) ∧ Aside0 (Below w.heap.size w w'))
      case atStart => exact ⟨(x4_1), (2), zE1, H', ⟨Nat.le_refl _⟩, ⟨by (try simp only [hl4_1]); (with_reducible repeat (first | apply Kd.S_alloc | apply Kd.S_drewN | apply Kd.S_drew)); exact HO_4.out⟩, ⟨zB HB.out⟩⟩
      case round =>
       clear H'
       try clear c1
       try clear p1
       try clear q1
       try clear hx1
       try clear hf1
       try clear c2
       try clear c2b0
       try clear c2b1
       try clear p2
       try clear c3
       try clear c3b0
       try clear c3b1
       try clear p6
       try clear c7
       try clear c7b0
       try clear c8
       try clear c8b0
       try clear c8b1
       try clear c9
       try clear c9b0
       try clear c9b1
       try clear c10
       try clear c10b0
       try clear c11
       try clear c11b0
       try clear c12
       try clear p12
       try clear q12
       try clear hx12
       try clear hf12
       try clear c16
       try clear hx16
       try clear hf16
       try clear hx12_0
       try clear hx16_0
       try clear p12
       try clear p2
       try clear q12
       obtain ⟨x4_2, x6_2, rfl, HA, HK2, HO_4, HB⟩ := hrel
       have hl4_2 := (Kd.S_reads' HO_4.out).1
       rw [hl4_2] at HO_4
       (try simp only [hl4_2])
       cases gk with
       | zero => exact absurd HA.out (by simp [spec_beOrdered.l1])
       | succ k2 =>
        have H := HA.out
        clear HA
        simp only [spec_beOrdered.l1] at H
        by_cases c18 : x6_2 ≤ (l0.length : Int)
        ·rw [if_pos c18] at H
         have c18b0 : decide (x6_2 ≤ (l0.length : Int)) = true := decide_eq_true c18
         (try (have c18h0 := c18b0; simp only [hl4_1, hl4_2] at c18h0))
         clear c18
         have H' := Aside0.mk H
         clear H
         go_wp2
         repeat (go_quiet (fail); try go_wp2)
         go_loopg [7] k2 (fun kq v7 w' => ∃ (x4_3 : List (List Int)) (x7_3 : Int), v7 = .int .i64 x7_3 ∧ Aside0 (spec_beOrdered.l2 kq l0 (l0.length : Int) x4_3 x6_2 x7_3 = some r) ∧ Aside0 (kq ≤ k2) ∧ Aside0 (Kd.S (Kd.slice 3 (Kd.int .i64)) 24 w' w.heap.size (fun _ => True) (.slice Ao6 x4_2.length co6) x4_3) ∧ Aside0 (Below w.heap.size w w'))
         case atStart => exact ⟨(x4_2), (0), zE1, H', ⟨Nat.le_refl _⟩, ⟨by (try simp only [hl4_1]); (try simp only [hl4_2]); (with_reducible repeat (first | apply Kd.S_alloc | apply Kd.S_drewN | apply Kd.S_drew)); exact HO_4.out⟩, ⟨zB HB.out⟩⟩
         case round =>
          clear H'
          try clear c1
          try clear p1
          try clear q1
          try clear hx1
          try clear hf1
          try clear c2
          try clear c2b0
          try clear c2b1
          try clear p2
          try clear c3
          try clear c3b0
          try clear c3b1
          try clear p6
          try clear c7
          try clear c7b0
          try clear c8
          try clear c8b0
          try clear c8b1
          try clear c9
          try clear c9b0
          try clear c9b1
          try clear c10
          try clear c10b0
          try clear c11
          try clear c11b0
          try clear c12
          try clear p12
          try clear q12
          try clear hx12
          try clear hf12
          try clear c16
          try clear hx16
          try clear hf16
          try clear c18
          try clear c18b0
          try clear hx12_0
          try clear hx16_0
          try clear p1
          try clear p12
          try clear p2
          try clear p6
          try clear q1
          try clear q12
          obtain ⟨x4_3, x7_3, rfl, HA, HK3, HO_4, HB⟩ := hrel
          have hl4_3 := (Kd.S_reads' HO_4.out).1
          rw [hl4_3] at HO_4
          (try simp only [hl4_3])
          cases gk with
          | zero => exact absurd HA.out (by simp [spec_beOrdered.l2])
          | succ k3 =>
           have H := HA.out
           clear HA
           simp only [spec_beOrdered.l2] at H
           by_cases c19 : (wrap64 (x7_3 + x6_2)) ≤ (l0.length : Int)
           ·rw [if_pos c19] at H
            have c19b0 : decide ((wrap64 (x7_3 + x6_2)) ≤ (l0.length : Int)) = true := decide_eq_true c19
            (try (have c19h0 := c19b0; simp only [hl4_1, hl4_2, hl4_3] at c19h0))
            clear c19
            have H' := Aside0.mk H
            clear H
            go_wp2
            repeat (go_quiet (fail); try go_wp2)
            go_loopg [8, 10] k3 (fun kq v8 v10 w' => ∃ (x8_4 : Int) (x10_4 : Int), v8 = .int .i64 x8_4 ∧ v10 = .int .i64 x10_4 ∧ Aside0 (spec_beOrdered.l3 kq l0 (l0.length : Int) x4_3 x6_2 x7_3 x8_4 (-1) x10_4 = some r) ∧ Aside0 (kq ≤ k3) ∧ Aside0 (Kd.S (Kd.slice 3 (Kd.int .i64)) 24 w' w.heap.size (fun _ => True) (.slice Ao6 x4_3.length co6) x4_3) ∧ Aside0 (Below w.heap.size w w'))
            case atStart => exact ⟨(0), (x7_3), zE1, zE1, H', ⟨Nat.le_refl _⟩, ⟨by (try simp only [hl4_1]); (try simp only [hl4_2]); (try simp only [hl4_3]); (with_reducible repeat (first | apply Kd.S_alloc | apply Kd.S_drewN | apply Kd.S_drew)); exact HO_4.out⟩, ⟨zB HB.out⟩⟩
            case round =>
             clear H'
             try clear c1
             try clear p1
             try clear q1
             try clear hx1
             try clear hf1
             try clear c2
             try clear c2b0
             try clear c2b1
             try clear p2
             try clear c3
             try clear c3b0
             try clear c3b1
             try clear p6
             try clear c7
             try clear c7b0
             try clear c8
             try clear c8b0
             try clear c8b1
             try clear c9
             try clear c9b0
             try clear c9b1
             try clear c10
             try clear c10b0
             try clear c11
             try clear c11b0
             try clear c12
             try clear p12
             try clear q12
             try clear hx12
             try clear hf12
             try clear c16
             try clear hx16
             try clear hf16
             try clear c18
             try clear c18b0
             try clear c19
             try clear c19b0
             try clear hx12_0
             try clear hx16_0
             try clear p1
             try clear p12
             try clear p2
             try clear p6
             try clear q1
             try clear q12
             obtain ⟨x8_4, x10_4, rfl, rfl, HA, HK4, HO_4, HB⟩ := hrel
             cases gk with
             | zero => exact absurd HA.out (by simp [spec_beOrdered.l3])
             | succ k4 =>
              have H := HA.out
              clear HA
              simp only [spec_beOrdered.l3] at H
              by_cases c20 : x10_4 < (wrap64 (x7_3 + x6_2))
              ·rw [if_pos c20] at H
               have c20b0 : decide (x10_4 < (wrap64 (x7_3 + x6_2))) = true := decide_eq_true c20
               (try (have c20h0 := c20b0; simp only [hl4_1, hl4_2, hl4_3] at c20h0))
               clear c20
               by_cases c21 : 0 ≤ x10_4
               ·rw [if_pos c21] at H
                have c21b0 : decide (0 ≤ x10_4) = true := decide_eq_true c21
                (try (have c21h0 := c21b0; simp only [hl4_1, hl4_2, hl4_3] at c21h0))
                clear c21
                by_cases c22 : x10_4 < (l0.length : Int)
                ·rw [if_pos c22] at H
                 have c22b0 : decide (x10_4 < (l0.length : Int)) = true := decide_eq_true c22
                 (try (have c22h0 := c22b0; simp only [hl4_1, hl4_2, hl4_3] at c22h0))
                 clear c22
                 have H' := Aside0.mk H
                 clear H
                 have p212 : 0 ≤ (x10_4 : Int) := zD
                 have q212 : x10_4 < (l0.length : Int) := zD
                 obtain ⟨ad212, e212, hx212_0⟩ := Kd.at_int HR0.out x10_4 p212 q212
                 cases e212
                 (try replace hx212_0 := (HB.out.cell (World.block_lt_of_cell? w _ hx212_0)).trans hx212_0)
                 replace p212 := eq_true p212
                 replace q212 := eq_true q212
                 go_wp2
                 repeat (go_quiet (fail); try go_wp2)
                 go_roundg k4
                 case measure => have := HK1.out; have := HK2.out; have := HK3.out; have := HK4.out; omega
                 case rel => exact ⟨(wrap64 (x8_4 + (rd l0 x10_4))), (wrap64 (x10_4 + 1)), zE1, zE1, H', ⟨by have := HK1.out; have := HK2.out; have := HK3.out; have := HK4.out; omega⟩, ⟨by (try simp only [hl4_1]); (try simp only [hl4_2]); (try simp only [hl4_3]); (with_reducible repeat (first | apply Kd.S_alloc | apply Kd.S_drewN | apply Kd.S_drew)); exact HO_4.out⟩, ⟨zB HB.out⟩⟩
                ·rw [if_neg c22] at H
                 exact absurd H (by simp)
               ·rw [if_neg c21] at H
                exact absurd H (by simp)
              ·rw [if_neg c20] at H
               have c20b0 : decide (x10_4 < (wrap64 (x7_3 + x6_2))) = false := decide_eq_false c20
               (try (have c20h0 := c20b0; simp only [hl4_1, hl4_2, hl4_3] at c20h0))
               clear c20
               have H' := Aside0.mk H
               clear H
               go_wp2
               repeat (go_quiet (fail); try go_wp2)
               go_loopg [9, 11] k4 (fun kq v9 v11 w' => ∃ (x9_5 : Int) (x11_5 : Int), v9 = .int .i64 x9_5 ∧ v11 = .int .i64 x11_5 ∧ Aside0 (spec_beOrdered.l4 kq l0 (l0.length : Int) x4_3 x6_2 x7_3 x8_4 x9_5 x11_5 = some r) ∧ Aside0 (kq ≤ k4) ∧ Aside0 (Kd.S (Kd.slice 3 (Kd.int .i64)) 24 w' w.heap.size (fun _ => True) (.slice Ao6 x4_3.length co6) x4_3) ∧ Aside0 (Below w.heap.size w w'))
               case atStart => exact ⟨((-1)), (x7_3), zE1, zE1, H', ⟨Nat.le_refl _⟩, ⟨by (try simp only [hl4_1]); (try simp only [hl4_2]); (try simp only [hl4_3]); (with_reducible repeat (first | apply Kd.S_alloc | apply Kd.S_drewN | apply Kd.S_drew)); exact HO_4.out⟩, ⟨zB HB.out⟩⟩
               case round =>
                clear H'
                try clear c1
                try clear p1
                try clear q1
                try clear hx1
                try clear hf1
                try clear c2
                try clear c2b0
                try clear c2b1
                try clear p2
                try clear q2
                try clear hx2
                try clear c3
                try clear c3b0
                try clear c3b1
                try clear p6
                try clear c7
                try clear c7b0
                try clear c8
                try clear c8b0
                try clear c8b1
                try clear c9
                try clear c9b0
                try clear c9b1
                try clear c10
                try clear c10b0
                try clear c11
                try clear c11b0
                try clear c12
                try clear p12
                try clear q12
                try clear hx12
                try clear hf12
                try clear c16
                try clear hx16
                try clear hf16
                try clear c18
                try clear c18b0
                try clear c19
                try clear c19b0
                try clear c20
                try clear c20b0
                try clear c21
                try clear c21b0
                try clear p21
                try clear q21
                try clear hx21
                try clear c22
                try clear c22b0
                try clear hx12_0
                try clear hx16_0
                try clear hx212_0
                try clear p1
                try clear p12
                try clear p2
                try clear p212
                try clear p6
                try clear q1
                try clear q12
                try clear q212
                obtain ⟨x9_5, x11_5, rfl, rfl, HA, HK5, HO_4, HB⟩ := hrel
                cases gk with
                | zero => exact absurd HA.out (by simp [spec_beOrdered.l4])
                | succ k5 =>
                 have H := HA.out
                 clear HA
                 simp only [spec_beOrdered.l4] at H
                 by_cases c23 : (wrap64 (x11_5 + 1)) < (wrap64 (x7_3 + x6_2))
                 ·rw [if_pos c23] at H
                  have c23b0 : decide ((wrap64 (x11_5 + 1)) < (wrap64 (x7_3 + x6_2))) = true := decide_eq_true c23
                  (try (have c23h0 := c23b0; simp only [hl4_1, hl4_2, hl4_3] at c23h0))
                  clear c23
                  by_cases c24 : 0 ≤ x7_3
                  ·rw [if_pos c24] at H
                   have c24b0 : decide (0 ≤ x7_3) = true := decide_eq_true c24
                   (try (have c24h0 := c24b0; simp only [hl4_1, hl4_2, hl4_3] at c24h0))
                   clear c24
                   by_cases c25 : x7_3 < (x4_3.length : Int)
                   ·rw [if_pos c25] at H
                    have c25b0 : decide (x7_3 < (x4_3.length : Int)) = true := decide_eq_true c25
                    (try (have c25h0 := c25b0; simp only [hl4_1, hl4_2, hl4_3] at c25h0))
                    clear c25
                    by_cases c26 : 0 ≤ x11_5
                    ·rw [if_pos c26] at H
                     have c26b0 : decide (0 ≤ x11_5) = true := decide_eq_true c26
                     (try (have c26h0 := c26b0; simp only [hl4_1, hl4_2, hl4_3] at c26h0))
                     clear c26
                     by_cases c27 : x11_5 < ((rd_L2 x4_3 x7_3).length : Int)
                     ·rw [if_pos c27] at H
                      have c27b0 : decide (x11_5 < ((rd_L2 x4_3 x7_3).length : Int)) = true := decide_eq_true c27
                      (try (have c27h0 := c27b0; simp only [hl4_1, hl4_2, hl4_3] at c27h0))
                      clear c27
                      obtain ⟨ji28, hji28⟩ : ∃ j_ : Int, (wrap64 (x11_5 + 1)) = j_ := ⟨_, rfl⟩
                      replace H : (if 0 ≤ (ji28) then (if (ji28) < (x4_3.length : Int) then (if 0 ≤ (wrap64 ((wrap64 (x7_3 + x6_2)) - 1)) then (if (wrap64 ((wrap64 (x7_3 + x6_2)) - 1)) < ((rd_L2 x4_3 (ji28)).length : Int) then (if x9_5 < 0 then (spec_beOrdered.l4 k5 l0 (l0.length : Int) x4_3 x6_2 x7_3 x8_4 (wrap64 ((rd (rd_L2 x4_3 x7_3) x11_5) + (rd (rd_L2 x4_3 (ji28)) (wrap64 ((wrap64 (x7_3 + x6_2)) - 1))))) ji28) else (if (wrap64 ((rd (rd_L2 x4_3 x7_3) x11_5) + (rd (rd_L2 x4_3 (ji28)) (wrap64 ((wrap64 (x7_3 + x6_2)) - 1))))) < x9_5 then (spec_beOrdered.l4 k5 l0 (l0.length : Int) x4_3 x6_2 x7_3 x8_4 (wrap64 ((rd (rd_L2 x4_3 x7_3) x11_5) + (rd (rd_L2 x4_3 (ji28)) (wrap64 ((wrap64 (x7_3 + x6_2)) - 1))))) ji28) else (spec_beOrdered.l4 k5 l0 (l0.length : Int) x4_3 x6_2 x7_3 x8_4 x9_5 ji28))) else (none)) else (none)) else (none)) else (none)) = some r := by first | (rw [hji28] at H; exact H) | (simp only [hji28] at H ⊢; exact H)
                      (try rw [hji28] at c23b0)
                      have hji28w : (IntKind.i64.wrap (x11_5 + 1)) = ji28 := (i64_w _).trans hji28
                      by_cases c29 : 0 ≤ (ji28)
                      ·rw [if_pos c29] at H
                       have c29b0 : decide (0 ≤ (ji28)) = true := decide_eq_true c29
                       (try (have c29h0 := c29b0; simp only [hl4_1, hl4_2, hl4_3] at c29h0))
                       clear c29
                       by_cases c30 : (ji28) < (x4_3.length : Int)
                       ·rw [if_pos c30] at H
                        have c30b0 : decide ((ji28) < (x4_3.length : Int)) = true := decide_eq_true c30
                        (try (have c30h0 := c30b0; simp only [hl4_1, hl4_2, hl4_3] at c30h0))
                        clear c30
                        obtain ⟨ji31, hji31⟩ : ∃ j_ : Int, (wrap64 ((wrap64 (x7_3 + x6_2)) - 1)) = j_ := ⟨_, rfl⟩
                        replace H : (if 0 ≤ (ji31) then (if (ji31) < ((rd_L2 x4_3 (ji28)).length : Int) then (if x9_5 < 0 then (spec_beOrdered.l4 k5 l0 (l0.length : Int) x4_3 x6_2 x7_3 x8_4 (wrap64 ((rd (rd_L2 x4_3 x7_3) x11_5) + (rd (rd_L2 x4_3 (ji28)) (ji31)))) ji28) else (if (wrap64 ((rd (rd_L2 x4_3 x7_3) x11_5) + (rd (rd_L2 x4_3 (ji28)) (ji31)))) < x9_5 then (spec_beOrdered.l4 k5 l0 (l0.length : Int) x4_3 x6_2 x7_3 x8_4 (wrap64 ((rd (rd_L2 x4_3 x7_3) x11_5) + (rd (rd_L2 x4_3 (ji28)) (ji31)))) ji28) else (spec_beOrdered.l4 k5 l0 (l0.length : Int) x4_3 x6_2 x7_3 x8_4 x9_5 ji28))) else (none)) else (none)) = some r := by first | (rw [hji31] at H; exact H) | (simp only [hji31] at H ⊢; exact H)
                        have hji31w : (IntKind.i64.wrap ((wrap64 (x7_3 + x6_2)) - 1)) = ji31 := (i64_w _).trans hji31
                        by_cases c32 : 0 ≤ (ji31)
                        ·rw [if_pos c32] at H
                         have c32b0 : decide (0 ≤ (ji31)) = true := decide_eq_true c32
                         (try (have c32h0 := c32b0; simp only [hl4_1, hl4_2, hl4_3] at c32h0))
                         clear c32
                         by_cases c33 : (ji31) < ((rd_L2 x4_3 (ji28)).length : Int)
                         ·rw [if_pos c33] at H
                          have c33b0 : decide ((ji31) < ((rd_L2 x4_3 (ji28)).length : Int)) = true := decide_eq_true c33
                          (try (have c33h0 := c33b0; simp only [hl4_1, hl4_2, hl4_3] at c33h0))
                          clear c33
                          by_cases c34 : x9_5 < 0
                          ·rw [if_pos c34] at H
                           have c34b0 : decide (x9_5 < 0) = true := decide_eq_true c34
                           (try (have c34h0 := c34b0; simp only [hl4_1, hl4_2, hl4_3] at c34h0))
                           clear c34
                           have H' := Aside0.mk H
                           clear H
                           have p213 : 0 ≤ (x7_3 : Int) := zD
                           have q213 : x7_3 < (x4_3.length : Int) := zD
                           obtain ⟨ad213, A213_0, c213_0, e213, hx213_0, hl213_0, hi213_0⟩ := at_L2 (Kd.S_reads' HO_4.out).2.2 x7_3 p213 q213
                           cases e213
                           obtain ⟨ce213, hce213, hMe213, hcc213⟩ := Kd.S_get HO_4.out [] x7_3 p213 (by first | exact q213 | exact zD | (have e_ := (Kd.S_reads' HO_4.out).1; omega))
                           obtain ⟨ve213_0, rfl, ge213_0⟩ := hMe213
                           have hv213_0 := hcc213 0 _ rfl
                           rw [Nat.add_zero, show ((Kd.slice 3 (Kd.int .i64))).sz = 1 from rfl, Nat.mul_one] at hv213_0
                           replace hv213_0 := Option.some.inj (hv213_0.symm.trans hx213_0)
                           rw [hv213_0] at ge213_0
                           have HL213_0 := Aside0.mk (show Kd.R (Kd.int .i64) 3 _ _ _ _ (rd_L2 x4_3 x7_3) from ge213_0)
                           clear hv213_0 ge213_0
                           have HX213_0 := Aside0.mk hx213_0
                           clear hcc213 hce213
                           have HR213_0 := Aside0.mk hi213_0
                           have HC213_0 := Aside0.mk hl213_0
                           clear hi213_0 hl213_0
                           replace p213 := eq_true p213
                           replace q213 := eq_true q213
                           have p214 : 0 ≤ (x11_5 : Int) := zD
                           have q214 : x11_5 < ((rd_L2 x4_3 x7_3).length : Int) := zD
                           obtain ⟨ad214, e214, hx214_0⟩ := Kd.at_int (by repeat (first | (with_reducible exact HR213_0.out) | (with_reducible refine Kd.C_alloc ?_ _) | (with_reducible refine Kd.C_drewN ?_ _) | (with_reducible refine Kd.C_drew ?_) | exact HR213_0.out)) x11_5 p214 q214
                           cases e214
                           replace p214 := eq_true p214
                           replace q214 := eq_true q214
                           have p215 : 0 ≤ ((ji28) : Int) := zD
                           have q215 : (ji28) < (x4_3.length : Int) := zD
                           obtain ⟨ad215, A215_0, c215_0, e215, hx215_0, hl215_0, hi215_0⟩ := at_L2 (Kd.S_reads' HO_4.out).2.2 (ji28) p215 q215
                           obtain rfl : ad213 = ad215 := (by injection e215)
                           obtain ⟨ce215, hce215, hMe215, hcc215⟩ := Kd.S_get HO_4.out [] (ji28) p215 (by first | exact q215 | exact zD | (have e_ := (Kd.S_reads' HO_4.out).1; omega))
                           obtain ⟨ve215_0, rfl, ge215_0⟩ := hMe215
                           have hv215_0 := hcc215 0 _ rfl
                           rw [Nat.add_zero, show ((Kd.slice 3 (Kd.int .i64))).sz = 1 from rfl, Nat.mul_one] at hv215_0
                           replace hv215_0 := Option.some.inj (hv215_0.symm.trans hx215_0)
                           rw [hv215_0] at ge215_0
                           have HL215_0 := Aside0.mk (show Kd.R (Kd.int .i64) 3 _ _ _ _ (rd_L2 x4_3 (ji28)) from ge215_0)
                           clear hv215_0 ge215_0
                           have HX215_0 := Aside0.mk hx215_0
                           clear hcc215 hce215
                           have HR215_0 := Aside0.mk hi215_0
                           have HC215_0 := Aside0.mk hl215_0
                           clear hi215_0 hl215_0
                           replace p215 := eq_true p215
                           replace q215 := eq_true q215
                           have p216 : 0 ≤ ((ji31) : Int) := zD
                           have q216 : (ji31) < ((rd_L2 x4_3 (ji28)).length : Int) := zD
                           obtain ⟨ad216, e216, hx216_0⟩ := Kd.at_int (by repeat (first | (with_reducible exact HR215_0.out) | (with_reducible refine Kd.C_alloc ?_ _) | (with_reducible refine Kd.C_drewN ?_ _) | (with_reducible refine Kd.C_drew ?_) | exact HR215_0.out)) (ji31) p216 q216
                           cases e216
                           replace p216 := eq_true p216
                           replace q216 := eq_true q216
                           go_wp2
                           repeat (go_quiet (fail); try go_wp2)
                           first | go_roundg k5 | (simp only [← hji28, ← hji31]; go_roundg k5)
                           case measure => have := HK1.out; have := HK2.out; have := HK3.out; have := HK4.out; have := HK5.out; omega
                           case rel => exact ⟨(wrap64 ((rd (rd_L2 x4_3 x7_3) x11_5) + (rd (rd_L2 x4_3 (ji28)) (ji31)))), (ji28), (by first | rfl | (simp; done) | (simp only [← hji28, ← hji31] <;> (first | rfl | simp)) | (simp [*]; done)), (by first | rfl | (simp; done) | (simp only [← hji28] <;> (first | rfl | simp)) | (simp [*]; done)), H', ⟨by have := HK1.out; have := HK2.out; have := HK3.out; have := HK4.out; have := HK5.out; omega⟩, ⟨by (try simp only [hl4_1]); (try simp only [hl4_2]); (try simp only [hl4_3]); (with_reducible repeat (first | apply Kd.S_alloc | apply Kd.S_drewN | apply Kd.S_drew)); exact HO_4.out⟩, ⟨zB HB.out⟩⟩
                          ·rw [if_neg c34] at H
                           have c34b0 : decide (x9_5 < 0) = false := decide_eq_false c34
                           (try (have c34h0 := c34b0; simp only [hl4_1, hl4_2, hl4_3] at c34h0))
                           clear c34
                           by_cases c35 : (wrap64 ((rd (rd_L2 x4_3 x7_3) x11_5) + (rd (rd_L2 x4_3 (ji28)) (ji31)))) < x9_5
                           ·rw [if_pos c35] at H
                            have c35b0 : decide ((wrap64 ((rd (rd_L2 x4_3 x7_3) x11_5) + (rd (rd_L2 x4_3 (ji28)) (ji31)))) < x9_5) = true := decide_eq_true c35
                            (try (have c35h0 := c35b0; simp only [hl4_1, hl4_2, hl4_3] at c35h0))
                            clear c35
                            have H' := Aside0.mk H
                            clear H
                            have p213 : 0 ≤ (x7_3 : Int) := zD
                            have q213 : x7_3 < (x4_3.length : Int) := zD
                            obtain ⟨ad213, A213_0, c213_0, e213, hx213_0, hl213_0, hi213_0⟩ := at_L2 (Kd.S_reads' HO_4.out).2.2 x7_3 p213 q213
                            cases e213
                            obtain ⟨ce213, hce213, hMe213, hcc213⟩ := Kd.S_get HO_4.out [] x7_3 p213 (by first | exact q213 | exact zD | (have e_ := (Kd.S_reads' HO_4.out).1; omega))
                            obtain ⟨ve213_0, rfl, ge213_0⟩ := hMe213
                            have hv213_0 := hcc213 0 _ rfl
                            rw [Nat.add_zero, show ((Kd.slice 3 (Kd.int .i64))).sz = 1 from rfl, Nat.mul_one] at hv213_0
                            replace hv213_0 := Option.some.inj (hv213_0.symm.trans hx213_0)
                            rw [hv213_0] at ge213_0
                            have HL213_0 := Aside0.mk (show Kd.R (Kd.int .i64) 3 _ _ _ _ (rd_L2 x4_3 x7_3) from ge213_0)
                            clear hv213_0 ge213_0
                            have HX213_0 := Aside0.mk hx213_0
                            clear hcc213 hce213
                            have HR213_0 := Aside0.mk hi213_0
                            have HC213_0 := Aside0.mk hl213_0
                            clear hi213_0 hl213_0
                            replace p213 := eq_true p213
                            replace q213 := eq_true q213
                            have p214 : 0 ≤ (x11_5 : Int) := zD
                            have q214 : x11_5 < ((rd_L2 x4_3 x7_3).length : Int) := zD
                            obtain ⟨ad214, e214, hx214_0⟩ := Kd.at_int (by repeat (first | (with_reducible exact HR213_0.out) | (with_reducible refine Kd.C_alloc ?_ _) | (with_reducible refine Kd.C_drewN ?_ _) | (with_reducible refine Kd.C_drew ?_) | exact HR213_0.out)) x11_5 p214 q214
                            cases e214
                            replace p214 := eq_true p214
                            replace q214 := eq_true q214
                            have p215 : 0 ≤ ((ji28) : Int) := zD
                            have q215 : (ji28) < (x4_3.length : Int) := zD
                            obtain ⟨ad215, A215_0, c215_0, e215, hx215_0, hl215_0, hi215_0⟩ := at_L2 (Kd.S_reads' HO_4.out).2.2 (ji28) p215 q215
                            obtain rfl : ad213 = ad215 := (by injection e215)
                            obtain ⟨ce215, hce215, hMe215, hcc215⟩ := Kd.S_get HO_4.out [] (ji28) p215 (by first | exact q215 | exact zD | (have e_ := (Kd.S_reads' HO_4.out).1; omega))
                            obtain ⟨ve215_0, rfl, ge215_0⟩ := hMe215
                            have hv215_0 := hcc215 0 _ rfl
                            rw [Nat.add_zero, show ((Kd.slice 3 (Kd.int .i64))).sz = 1 from rfl, Nat.mul_one] at hv215_0
                            replace hv215_0 := Option.some.inj (hv215_0.symm.trans hx215_0)
                            rw [hv215_0] at ge215_0
                            have HL215_0 := Aside0.mk (show Kd.R (Kd.int .i64) 3 _ _ _ _ (rd_L2 x4_3 (ji28)) from ge215_0)
                            clear hv215_0 ge215_0
                            have HX215_0 := Aside0.mk hx215_0
                            clear hcc215 hce215
                            have HR215_0 := Aside0.mk hi215_0
                            have HC215_0 := Aside0.mk hl215_0
                            clear hi215_0 hl215_0
                            replace p215 := eq_true p215
                            replace q215 := eq_true q215
                            have p216 : 0 ≤ ((ji31) : Int) := zD
                            have q216 : (ji31) < ((rd_L2 x4_3 (ji28)).length : Int) := zD
                            obtain ⟨ad216, e216, hx216_0⟩ := Kd.at_int (by repeat (first | (with_reducible exact HR215_0.out) | (with_reducible refine Kd.C_alloc ?_ _) | (with_reducible refine Kd.C_drewN ?_ _) | (with_reducible refine Kd.C_drew ?_) | exact HR215_0.out)) (ji31) p216 q216
                            cases e216
                            replace p216 := eq_true p216
                            replace q216 := eq_true q216
                            go_wp2
                            repeat (go_quiet (fail); try go_wp2)
                            first | go_roundg k5 | (simp only [← hji28, ← hji31]; go_roundg k5)
                            case measure => have := HK1.out; have := HK2.out; have := HK3.out; have := HK4.out; have := HK5.out; omega
                            case rel => exact ⟨(wrap64 ((rd (rd_L2 x4_3 x7_3) x11_5) + (rd (rd_L2 x4_3 (ji28)) (ji31)))), (ji28), (by first | rfl | (simp; done) | (simp only [← hji28, ← hji31] <;> (first | rfl | simp)) | (simp [*]; done)), (by first | rfl | (simp; done) | (simp only [← hji28] <;> (first | rfl | simp)) | (simp [*]; done)), H', ⟨by have := HK1.out; have := HK2.out; have := HK3.out; have := HK4.out; have := HK5.out; omega⟩, ⟨by (try simp only [hl4_1]); (try simp only [hl4_2]); (try simp only [hl4_3]); (with_reducible repeat (first | apply Kd.S_alloc | apply Kd.S_drewN | apply Kd.S_drew)); exact HO_4.out⟩, ⟨zB HB.out⟩⟩
                           ·rw [if_neg c35] at H
                            have c35b0 : decide ((wrap64 ((rd (rd_L2 x4_3 x7_3) x11_5) + (rd (rd_L2 x4_3 (ji28)) (ji31)))) < x9_5) = false := decide_eq_false c35
                            (try (have c35h0 := c35b0; simp only [hl4_1, hl4_2, hl4_3] at c35h0))
                            clear c35
                            have H' := Aside0.mk H
                            clear H
                            have p213 : 0 ≤ (x7_3 : Int) := zD
                            have q213 : x7_3 < (x4_3.length : Int) := zD
                            obtain ⟨ad213, A213_0, c213_0, e213, hx213_0, hl213_0, hi213_0⟩ := at_L2 (Kd.S_reads' HO_4.out).2.2 x7_3 p213 q213
                            cases e213
                            obtain ⟨ce213, hce213, hMe213, hcc213⟩ := Kd.S_get HO_4.out [] x7_3 p213 (by first | exact q213 | exact zD | (have e_ := (Kd.S_reads' HO_4.out).1; omega))
                            obtain ⟨ve213_0, rfl, ge213_0⟩ := hMe213
                            have hv213_0 := hcc213 0 _ rfl
                            rw [Nat.add_zero, show ((Kd.slice 3 (Kd.int .i64))).sz = 1 from rfl, Nat.mul_one] at hv213_0
                            replace hv213_0 := Option.some.inj (hv213_0.symm.trans hx213_0)
                            rw [hv213_0] at ge213_0
                            have HL213_0 := Aside0.mk (show Kd.R (Kd.int .i64) 3 _ _ _ _ (rd_L2 x4_3 x7_3) from ge213_0)
                            clear hv213_0 ge213_0
                            have HX213_0 := Aside0.mk hx213_0
                            clear hcc213 hce213
                            have HR213_0 := Aside0.mk hi213_0
                            have HC213_0 := Aside0.mk hl213_0
                            clear hi213_0 hl213_0
                            replace p213 := eq_true p213
                            replace q213 := eq_true q213
                            have p214 : 0 ≤ (x11_5 : Int) := zD
                            have q214 : x11_5 < ((rd_L2 x4_3 x7_3).length : Int) := zD
                            obtain ⟨ad214, e214, hx214_0⟩ := Kd.at_int (by repeat (first | (with_reducible exact HR213_0.out) | (with_reducible refine Kd.C_alloc ?_ _) | (with_reducible refine Kd.C_drewN ?_ _) | (with_reducible refine Kd.C_drew ?_) | exact HR213_0.out)) x11_5 p214 q214
                            cases e214
                            replace p214 := eq_true p214
                            replace q214 := eq_true q214
                            have p215 : 0 ≤ ((ji28) : Int) := zD
                            have q215 : (ji28) < (x4_3.length : Int) := zD
                            obtain ⟨ad215, A215_0, c215_0, e215, hx215_0, hl215_0, hi215_0⟩ := at_L2 (Kd.S_reads' HO_4.out).2.2 (ji28) p215 q215
                            obtain rfl : ad213 = ad215 := (by injection e215)
                            obtain ⟨ce215, hce215, hMe215, hcc215⟩ := Kd.S_get HO_4.out [] (ji28) p215 (by first | exact q215 | exact zD | (have e_ := (Kd.S_reads' HO_4.out).1; omega))
                            obtain ⟨ve215_0, rfl, ge215_0⟩ := hMe215
                            have hv215_0 := hcc215 0 _ rfl
                            rw [Nat.add_zero, show ((Kd.slice 3 (Kd.int .i64))).sz = 1 from rfl, Nat.mul_one] at hv215_0
                            replace hv215_0 := Option.some.inj (hv215_0.symm.trans hx215_0)
                            rw [hv215_0] at ge215_0
                            have HL215_0 := Aside0.mk (show Kd.R (Kd.int .i64) 3 _ _ _ _ (rd_L2 x4_3 (ji28)) from ge215_0)
                            clear hv215_0 ge215_0
                            have HX215_0 := Aside0.mk hx215_0
                            clear hcc215 hce215
                            have HR215_0 := Aside0.mk hi215_0
                            have HC215_0 := Aside0.mk hl215_0
                            clear hi215_0 hl215_0
                            replace p215 := eq_true p215
                            replace q215 := eq_true q215
                            have p216 : 0 ≤ ((ji31) : Int) := zD
                            have q216 : (ji31) < ((rd_L2 x4_3 (ji28)).length : Int) := zD
                            obtain ⟨ad216, e216, hx216_0⟩ := Kd.at_int (by repeat (first | (with_reducible exact HR215_0.out) | (with_reducible refine Kd.C_alloc ?_ _) | (with_reducible refine Kd.C_drewN ?_ _) | (with_reducible refine Kd.C_drew ?_) | exact HR215_0.out)) (ji31) p216 q216
                            cases e216
                            replace p216 := eq_true p216
                            replace q216 := eq_true q216
                            go_wp2
                            repeat (go_quiet (fail); try go_wp2)
                            first | go_roundg k5 | (simp only [← hji28, ← hji31]; go_roundg k5)
                            case measure => have := HK1.out; have := HK2.out; have := HK3.out; have := HK4.out; have := HK5.out; omega
                            case rel => exact ⟨(x9_5), (ji28), zE1, (by first | rfl | (simp; done) | (simp only [← hji28] <;> (first | rfl | simp)) | (simp [*]; done)), H', ⟨by have := HK1.out; have := HK2.out; have := HK3.out; have := HK4.out; have := HK5.out; omega⟩, ⟨by (try simp only [hl4_1]); (try simp only [hl4_2]); (try simp only [hl4_3]); (with_reducible repeat (first | apply Kd.S_alloc | apply Kd.S_drewN | apply Kd.S_drew)); exact HO_4.out⟩, ⟨zB HB.out⟩⟩
                         ·rw [if_neg c33] at H
                          exact absurd H (by simp)
                        ·rw [if_neg c32] at H
                         exact absurd H (by simp)
                       ·rw [if_neg c30] at H
                        exact absurd H (by simp)
                      ·rw [if_neg c29] at H
                       exact absurd H (by simp)
                     ·rw [if_neg c27] at H
                      exact absurd H (by simp)
                    ·rw [if_neg c26] at H
                     exact absurd H (by simp)
                   ·rw [if_neg c25] at H
                    exact absurd H (by simp)
                  ·rw [if_neg c24] at H
                   exact absurd H (by simp)
                 ·rw [if_neg c23] at H
                  have c23b0 : decide ((wrap64 (x11_5 + 1)) < (wrap64 (x7_3 + x6_2))) = false := decide_eq_false c23
                  (try (have c23h0 := c23b0; simp only [hl4_1, hl4_2, hl4_3] at c23h0))
                  clear c23
                  by_cases c36 : 0 ≤ x7_3
                  ·rw [if_pos c36] at H
                   have c36b0 : decide (0 ≤ x7_3) = true := decide_eq_true c36
                   (try (have c36h0 := c36b0; simp only [hl4_1, hl4_2, hl4_3] at c36h0))
                   clear c36
                   by_cases c37 : x7_3 < (x4_3.length : Int)
                   ·rw [if_pos c37] at H
                    have c37b0 : decide (x7_3 < (x4_3.length : Int)) = true := decide_eq_true c37
                    (try (have c37h0 := c37b0; simp only [hl4_1, hl4_2, hl4_3] at c37h0))
                    clear c37
                    obtain ⟨ji38, hji38⟩ : ∃ j_ : Int, (wrap64 ((wrap64 (x7_3 + x6_2)) - 1)) = j_ := ⟨_, rfl⟩
                    replace H : (if 0 ≤ (ji38) then (if (ji38) < ((rd_L2 x4_3 x7_3).length : Int) then (spec_beOrdered.l2 k5 l0 (l0.length : Int) (x4_3.set (x7_3 : Int).toNat ((rd_L2 x4_3 x7_3).set ((ji38) : Int).toNat (wrap64 (x8_4 + x9_5)))) x6_2 (wrap64 (x7_3 + 1))) else (none)) else (none)) = some r := by first | (rw [hji38] at H; exact H) | (simp only [hji38] at H ⊢; exact H)
                    have hji38w : (IntKind.i64.wrap ((wrap64 (x7_3 + x6_2)) - 1)) = ji38 := (i64_w _).trans hji38
                    by_cases c39 : 0 ≤ (ji38)
                    ·rw [if_pos c39] at H
                     have c39b0 : decide (0 ≤ (ji38)) = true := decide_eq_true c39
                     (try (have c39h0 := c39b0; simp only [hl4_1, hl4_2, hl4_3] at c39h0))
                     clear c39
                     by_cases c40 : (ji38) < ((rd_L2 x4_3 x7_3).length : Int)
                     ·rw [if_pos c40] at H
                      have c40b0 : decide ((ji38) < ((rd_L2 x4_3 x7_3).length : Int)) = true := decide_eq_true c40
                      (try (have c40h0 := c40b0; simp only [hl4_1, hl4_2, hl4_3] at c40h0))
                      clear c40
                      obtain ⟨y218, hy218⟩ : ∃ y_ : List Int, y_ = ((rd_L2 x4_3 x7_3).set ((ji38) : Int).toNat (wrap64 (x8_4 + x9_5))) := ⟨_, rfl⟩
                      replace H : (spec_beOrdered.l2 k5 l0 (l0.length : Int) (x4_3.set (x7_3 : Int).toNat y218) x6_2 (wrap64 (x7_3 + 1))) = some r := by first | (rw [hy218]; with_reducible exact H) | (have H2_ := (Option.bind_some _ _).symm.trans H; rw [hy218]; with_reducible exact H2_) | (have H2_ := (Option.bind_some _ _).symm.trans H; with_reducible exact H2_) | with_reducible exact H | (rw [hy218]; exact H) | exact H
                      have Ny218 := Aside0.mk hy218
                      clear hy218
                      obtain ⟨y220, hy220⟩ : ∃ y_ : List (List Int), y_ = (x4_3.set (x7_3 : Int).toNat y218) := ⟨_, rfl⟩
                      replace H : (spec_beOrdered.l2 k5 l0 (l0.length : Int) y220 x6_2 (wrap64 (x7_3 + 1))) = some r := by first | (rw [hy220]; with_reducible exact H) | (have H2_ := (Option.bind_some _ _).symm.trans H; rw [hy220]; with_reducible exact H2_) | (have H2_ := (Option.bind_some _ _).symm.trans H; with_reducible exact H2_) | with_reducible exact H | (rw [hy220]; exact H) | exact H
                      have Ny220 := Aside0.mk hy220
                      clear hy220
                      have H' := Aside0.mk H
                      clear H
                      have p217 : 0 ≤ (x7_3 : Int) := zD
                      have q217 : x7_3 < (x4_3.length : Int) := zD
                      obtain ⟨ad217, A217_0, c217_0, e217, hx217_0, hl217_0, hi217_0⟩ := at_L2 (Kd.S_reads' HO_4.out).2.2 x7_3 p217 q217
                      cases e217
                      obtain ⟨ce217, hce217, hMe217, hcc217⟩ := Kd.S_get HO_4.out [] x7_3 p217 (by first | exact q217 | exact zD | (have e_ := (Kd.S_reads' HO_4.out).1; omega))
                      obtain ⟨ve217_0, rfl, ge217_0⟩ := hMe217
                      have hv217_0 := hcc217 0 _ rfl
                      rw [Nat.add_zero, show ((Kd.slice 3 (Kd.int .i64))).sz = 1 from rfl, Nat.mul_one] at hv217_0
                      replace hv217_0 := Option.some.inj (hv217_0.symm.trans hx217_0)
                      rw [hv217_0] at ge217_0
                      have HL217_0 := Aside0.mk (show Kd.R (Kd.int .i64) 3 _ _ _ _ (rd_L2 x4_3 x7_3) from ge217_0)
                      clear hv217_0 ge217_0
                      have HX217_0 := Aside0.mk hx217_0
                      clear hcc217 hce217
                      have HR217_0 := Aside0.mk hi217_0
                      have HC217_0 := Aside0.mk hl217_0
                      clear hi217_0 hl217_0
                      replace p217 := eq_true p217
                      replace q217 := eq_true q217
                      have p41 : 0 ≤ ((ji38) : Int) := zD
                      have q41 : ((ji38) : Int) < (((rd_L2 x4_3 x7_3).length : Int) : Int) := zD
                      obtain ⟨go41, co41, eo41, gb41, gl41, cl41, HG41⟩ := Kd.R_form HL217_0.out (by omega)
                      (first | cases eo41 | (injection eo41 with ea_ en_ ec_; (first | subst ea_ | (injection ea_ with ea_; subst ea_)); subst ec_; clear en_))
                      have GB41 := Aside0.mk gb41
                      have GG41 := Aside0.mk HG41
                      clear gb41 gl41 HG41
                      obtain ⟨hx41_0, hf41_0⟩ := Kd.R_celln 0 HL217_0.out ((ji38) : Int) p41 q41
                      replace p41 := eq_true p41
                      replace q41 := eq_true q41
                      have hq42 : (x7_3 : Int) < (x4_3.length : Int) := (by have h_ : (x7_3 : Int) < ((x4_3.length : Int) : Int) := zD; first | exact h_ | (have e_ := (Kd.S_reads' HO_4.out).1; omega) | simpa only [List.length_set, List.length_set] using h_)
                      obtain ⟨oki42, ce42, hcl42, hM42, hcc42, hok42, hbk42⟩ := Kd.S_borrow HO_4.out [] (x7_3 : Int) (zD) hq42
                      obtain ⟨ve42_0, rfl, ge42_0⟩ := hM42
                      have hv42 := hcc42 0 _ rfl
                      rw [Nat.add_zero, show ((Kd.slice 3 (Kd.int .i64))).sz = 1 from rfl, Nat.mul_one] at hv42
                      replace hv42 := Option.some.inj (hv42.symm.trans HX217_0.out)
                      subst hv42
                      clear hcc42 hcl42
                      replace ge42_0 := (show Kd.R (Kd.int .i64) 3 _ _ _ _ (rd_L2 x4_3 x7_3) from ge42_0)
                      have HP42 := Kd.R_putg ge42_0 ((ji38) : Int) (wrap64 (x8_4 + x9_5))
                      go_wp2_with (first | ((with_reducible refine gate_store (t := 3) (p := 101) rfl ?_); (try (rw [drewN_self wr]; generalize hq_ : World.drewN wr _ = wr; have n0_ := Aside0.mk (Kd.S_at hq_ HO_4.out); have n1_ := Aside0.mk (Kd.R_at hq_ HL221.out); have n2_ := Aside0.mk (below_at hq_ HB.out); clear hq_ HO_4 HL221 HB; have HO_4 := n0_; have HL221 := n1_; have HB := n2_; clear n0_ n1_ n2_; (try (have hq42 : (x7_3 : Int) < (x4_3.length : Int) := (by have h_ : (x7_3 : Int) < ((x4_3.length : Int) : Int) := zD; first | exact h_ | (have e_ := (Kd.S_reads' HO_4.out).1; omega) | simpa only [List.length_set, List.length_set] using h_))); (try (obtain ⟨oki42, ce42, hcl42, hM42, hcc42, hok42, hbk42⟩ := Kd.S_borrow HO_4.out [] (x7_3 : Int) (zD) hq42)); (try (obtain ⟨ve42_0, rfl, ge42_0⟩ := hM42)); (try (have hv42 := hcc42 0 _ rfl)); (try (rw [Nat.add_zero, show ((Kd.slice 3 (Kd.int .i64))).sz = 1 from rfl, Nat.mul_one] at hv42)); (try (replace hv42 := Option.some.inj (hv42.symm.trans HX217_0.out))); (try (subst hv42)); (try (clear hcc42 hcl42)); (try (replace ge42_0 := (show Kd.R (Kd.int .i64) 3 _ _ _ _ (rd_L2 x4_3 x7_3) from ge42_0))); (try (have HP42 := Kd.R_putg ge42_0 ((ji38) : Int) (wrap64 (x8_4 + x9_5)))))); refine store_event (t := 3) (p := 101) (v := ?vo_w43) (w1 := (wr.setCell ⟨go41, ((ji38) : Int).toNat, none⟩ (.int .i64 (wrap64 (x8_4 + x9_5))))) ?hg ?ho ?hn ?hr ?_; (case ho => rfl); (case hg => rfl); (case hn => rfl); (case hr => first | (go_simp; done) | (go_simp; rfl)); intro w43 hw; have hg : wr.grownBy w43 (some go41) := (by rw [hw]; exact HP42.2); have hz_ : Kd.R (Kd.int .i64) 3 w43 w.heap.size oki42 (.slice (some ⟨go41, 0, none⟩) (rd_L2 x4_3 x7_3).length c217_0) y218 := (by rw [hw, Ny218.out]; exact HP42.1); have hp_ : Kd.S (Kd.slice 3 (Kd.int .i64)) 24 w43 w.heap.size (fun _ => True) (.slice (some ad217) x4_3.length co6) y220 := (by rw [Ny220.out]; exact hbk42 hg (fun k_ e_ => by injection e_ with e_; subst e_; exact ge42_0.1 _ rfl) (Kd.M_row hz_)); have hm_ := Kd.R_mono hz_ hok42; clear HP42 hbk42; have n0_ := Aside0.mk (hp_); have n1_ := Aside0.mk ((by rw [hw]; exact below_set (HB.out) GB41.out : Below w.heap.size w w43)); have n2_ := Aside0.mk (hm_); have n3_ := Aside0.mk ((Kd.R_reads' hm_).2.1); clear HO_4; clear HB; clear HL217_0; have HO_4 := n0_; have HB := n1_; have HL221 := n2_; have HC219 := n3_; clear n0_ n1_ n2_ n3_; clear hg hw hp_ hz_ hm_ hok42))
                      repeat (go_quiet (first | ((with_reducible refine gate_store (t := 3) (p := 101) rfl ?_); (try (rw [drewN_self wr]; generalize hq_ : World.drewN wr _ = wr; have n0_ := Aside0.mk (Kd.S_at hq_ HO_4.out); have n1_ := Aside0.mk (Kd.R_at hq_ HL221.out); have n2_ := Aside0.mk (below_at hq_ HB.out); clear hq_ HO_4 HL221 HB; have HO_4 := n0_; have HL221 := n1_; have HB := n2_; clear n0_ n1_ n2_; (try (have hq42 : (x7_3 : Int) < (x4_3.length : Int) := (by have h_ : (x7_3 : Int) < ((x4_3.length : Int) : Int) := zD; first | exact h_ | (have e_ := (Kd.S_reads' HO_4.out).1; omega) | simpa only [List.length_set, List.length_set] using h_))); (try (obtain ⟨oki42, ce42, hcl42, hM42, hcc42, hok42, hbk42⟩ := Kd.S_borrow HO_4.out [] (x7_3 : Int) (zD) hq42)); (try (obtain ⟨ve42_0, rfl, ge42_0⟩ := hM42)); (try (have hv42 := hcc42 0 _ rfl)); (try (rw [Nat.add_zero, show ((Kd.slice 3 (Kd.int .i64))).sz = 1 from rfl, Nat.mul_one] at hv42)); (try (replace hv42 := Option.some.inj (hv42.symm.trans HX217_0.out))); (try (subst hv42)); (try (clear hcc42 hcl42)); (try (replace ge42_0 := (show Kd.R (Kd.int .i64) 3 _ _ _ _ (rd_L2 x4_3 x7_3) from ge42_0))); (try (have HP42 := Kd.R_putg ge42_0 ((ji38) : Int) (wrap64 (x8_4 + x9_5)))))); refine store_event (t := 3) (p := 101) (v := ?vo_w43) (w1 := (wr.setCell ⟨go41, ((ji38) : Int).toNat, none⟩ (.int .i64 (wrap64 (x8_4 + x9_5))))) ?hg ?ho ?hn ?hr ?_; (case ho => rfl); (case hg => rfl); (case hn => rfl); (case hr => first | (go_simp; done) | (go_simp; rfl)); intro w43 hw; have hg : wr.grownBy w43 (some go41) := (by rw [hw]; exact HP42.2); have hz_ : Kd.R (Kd.int .i64) 3 w43 w.heap.size oki42 (.slice (some ⟨go41, 0, none⟩) (rd_L2 x4_3 x7_3).length c217_0) y218 := (by rw [hw, Ny218.out]; exact HP42.1); have hp_ : Kd.S (Kd.slice 3 (Kd.int .i64)) 24 w43 w.heap.size (fun _ => True) (.slice (some ad217) x4_3.length co6) y220 := (by rw [Ny220.out]; exact hbk42 hg (fun k_ e_ => by injection e_ with e_; subst e_; exact ge42_0.1 _ rfl) (Kd.M_row hz_)); have hm_ := Kd.R_mono hz_ hok42; clear HP42 hbk42; have n0_ := Aside0.mk (hp_); have n1_ := Aside0.mk ((by rw [hw]; exact below_set (HB.out) GB41.out : Below w.heap.size w w43)); have n2_ := Aside0.mk (hm_); have n3_ := Aside0.mk ((Kd.R_reads' hm_).2.1); clear HO_4; clear HB; clear HL217_0; have HO_4 := n0_; have HB := n1_; have HL221 := n2_; have HC219 := n3_; clear n0_ n1_ n2_ n3_; clear hg hw hp_ hz_ hm_ hok42)); try go_wp2_with (first | ((with_reducible refine gate_store (t := 3) (p := 101) rfl ?_); (try (rw [drewN_self wr]; generalize hq_ : World.drewN wr _ = wr; have n0_ := Aside0.mk (Kd.S_at hq_ HO_4.out); have n1_ := Aside0.mk (Kd.R_at hq_ HL221.out); have n2_ := Aside0.mk (below_at hq_ HB.out); clear hq_ HO_4 HL221 HB; have HO_4 := n0_; have HL221 := n1_; have HB := n2_; clear n0_ n1_ n2_; (try (have hq42 : (x7_3 : Int) < (x4_3.length : Int) := (by have h_ : (x7_3 : Int) < ((x4_3.length : Int) : Int) := zD; first | exact h_ | (have e_ := (Kd.S_reads' HO_4.out).1; omega) | simpa only [List.length_set, List.length_set] using h_))); (try (obtain ⟨oki42, ce42, hcl42, hM42, hcc42, hok42, hbk42⟩ := Kd.S_borrow HO_4.out [] (x7_3 : Int) (zD) hq42)); (try (obtain ⟨ve42_0, rfl, ge42_0⟩ := hM42)); (try (have hv42 := hcc42 0 _ rfl)); (try (rw [Nat.add_zero, show ((Kd.slice 3 (Kd.int .i64))).sz = 1 from rfl, Nat.mul_one] at hv42)); (try (replace hv42 := Option.some.inj (hv42.symm.trans HX217_0.out))); (try (subst hv42)); (try (clear hcc42 hcl42)); (try (replace ge42_0 := (show Kd.R (Kd.int .i64) 3 _ _ _ _ (rd_L2 x4_3 x7_3) from ge42_0))); (try (have HP42 := Kd.R_putg ge42_0 ((ji38) : Int) (wrap64 (x8_4 + x9_5)))))); refine store_event (t := 3) (p := 101) (v := ?vo_w43) (w1 := (wr.setCell ⟨go41, ((ji38) : Int).toNat, none⟩ (.int .i64 (wrap64 (x8_4 + x9_5))))) ?hg ?ho ?hn ?hr ?_; (case ho => rfl); (case hg => rfl); (case hn => rfl); (case hr => first | (go_simp; done) | (go_simp; rfl)); intro w43 hw; have hg : wr.grownBy w43 (some go41) := (by rw [hw]; exact HP42.2); have hz_ : Kd.R (Kd.int .i64) 3 w43 w.heap.size oki42 (.slice (some ⟨go41, 0, none⟩) (rd_L2 x4_3 x7_3).length c217_0) y218 := (by rw [hw, Ny218.out]; exact HP42.1); have hp_ : Kd.S (Kd.slice 3 (Kd.int .i64)) 24 w43 w.heap.size (fun _ => True) (.slice (some ad217) x4_3.length co6) y220 := (by rw [Ny220.out]; exact hbk42 hg (fun k_ e_ => by injection e_ with e_; subst e_; exact ge42_0.1 _ rfl) (Kd.M_row hz_)); have hm_ := Kd.R_mono hz_ hok42; clear HP42 hbk42; have n0_ := Aside0.mk (hp_); have n1_ := Aside0.mk ((by rw [hw]; exact below_set (HB.out) GB41.out : Below w.heap.size w w43)); have n2_ := Aside0.mk (hm_); have n3_ := Aside0.mk ((Kd.R_reads' hm_).2.1); clear HO_4; clear HB; clear HL217_0; have HO_4 := n0_; have HB := n1_; have HL221 := n2_; have HC219 := n3_; clear n0_ n1_ n2_ n3_; clear hg hw hp_ hz_ hm_ hok42)))
                      (try simp only [← hl4_3])
                      first | go_roundg k5 | (simp only [← hji38]; go_roundg k5)
                      case measure => have := HK1.out; have := HK2.out; have := HK3.out; have := HK4.out; have := HK5.out; omega
                      case rel => exact ⟨(y220), (wrap64 (x7_3 + 1)), zE1, H', ⟨by have := HK1.out; have := HK2.out; have := HK3.out; have := HK4.out; have := HK5.out; omega⟩, ⟨by (try simp only [hl4_1]); (try simp only [hl4_2]); (try simp only [hl4_3]); (with_reducible repeat (first | apply Kd.S_alloc | apply Kd.S_drewN | apply Kd.S_drew)); exact HO_4.out⟩, ⟨zB HB.out⟩⟩
                     ·rw [if_neg c40] at H
                      exact absurd H (by simp)
                    ·rw [if_neg c39] at H
                     exact absurd H (by simp)
                   ·rw [if_neg c37] at H
                    exact absurd H (by simp)
                  ·rw [if_neg c36] at H
                   exact absurd H (by simp)
           ·rw [if_neg c19] at H
            have c19b0 : decide ((wrap64 (x7_3 + x6_2)) ≤ (l0.length : Int)) = false := decide_eq_false c19
            (try (have c19h0 := c19b0; simp only [hl4_1, hl4_2, hl4_3] at c19h0))
            clear c19
            have H' := Aside0.mk H
            clear H
            go_wp2
            repeat (go_quiet (fail); try go_wp2)
            (try simp only [← hl4_2, ← hl4_3])
            go_roundg k3
            case measure => have := HK1.out; have := HK2.out; have := HK3.out; omega
            case rel => exact ⟨(x4_3), (wrap64 (x6_2 + 1)), zE1, H', ⟨by have := HK1.out; have := HK2.out; have := HK3.out; omega⟩, ⟨by (try simp only [hl4_1]); (try simp only [hl4_2]); (try simp only [hl4_3]); (with_reducible repeat (first | apply Kd.S_alloc | apply Kd.S_drewN | apply Kd.S_drew)); exact HO_4.out⟩, ⟨zB HB.out⟩⟩
        ·rw [if_neg c18] at H
         have c18b0 : decide (x6_2 ≤ (l0.length : Int)) = false := decide_eq_false c18
         (try (have c18h0 := c18b0; simp only [hl4_1, hl4_2] at c18h0))
         clear c18
         by_cases c44 : 0 < (x4_2.length : Int)
         ·rw [if_pos c44] at H
          have c44b0 : decide (0 < (x4_2.length : Int)) = true := decide_eq_true c44
          have c44b1 : decide (0 < x4_2.length) = true := decide_eq_true (by omega)
          (try (have c44h0 := c44b0; simp only [hl4_1, hl4_2] at c44h0))
          (try (have c44h1 := c44b1; simp only [hl4_1, hl4_2] at c44h1))
          clear c44
          obtain ⟨ji45, hji45⟩ : ∃ j_ : Int, (wrap64 ((l0.length : Int) - 1)) = j_ := ⟨_, rfl⟩
          replace H : (if 0 ≤ (ji45) then (if (ji45) < ((rd_L2 x4_2 0).length : Int) then (some (rd (rd_L2 x4_2 0) (ji45))) else (none)) else (none)) = some r := by first | (rw [hji45] at H; exact H) | (simp only [hji45] at H ⊢; exact H)
          have hji45w : (IntKind.i64.wrap ((l0.length : Int) - 1)) = ji45 := (i64_w _).trans hji45
          by_cases c46 : 0 ≤ (ji45)
          ·rw [if_pos c46] at H
           have c46b0 : decide (0 ≤ (ji45)) = true := decide_eq_true c46
           (try (have c46h0 := c46b0; simp only [hl4_1, hl4_2] at c46h0))
           clear c46
           by_cases c47 : (ji45) < ((rd_L2 x4_2 0).length : Int)
           ·rw [if_pos c47] at H
            have c47b0 : decide ((ji45) < ((rd_L2 x4_2 0).length : Int)) = true := decide_eq_true c47
            (try (have c47h0 := c47b0; simp only [hl4_1, hl4_2] at c47h0))
            clear c47
            obtain rfl := Option.some.inj H
            have p210 : 0 ≤ (0 : Int) := (by omega)
            have q210 : 0 < (x4_2.length : Int) := zD
            obtain ⟨ad210, A210_0, c210_0, e210, hx210_0, hl210_0, hi210_0⟩ := at_L2 (Kd.S_reads' HO_4.out).2.2 0 p210 q210
            cases e210
            obtain ⟨ce210, hce210, hMe210, hcc210⟩ := Kd.S_get HO_4.out [] 0 p210 (by first | exact q210 | exact zD | (have e_ := (Kd.S_reads' HO_4.out).1; omega))
            obtain ⟨ve210_0, rfl, ge210_0⟩ := hMe210
            have hv210_0 := hcc210 0 _ rfl
            rw [Nat.add_zero, show ((Kd.slice 3 (Kd.int .i64))).sz = 1 from rfl, Nat.mul_one] at hv210_0
            replace hv210_0 := Option.some.inj (hv210_0.symm.trans hx210_0)
            rw [hv210_0] at ge210_0
            have HL210_0 := Aside0.mk (show Kd.R (Kd.int .i64) 3 _ _ _ _ (rd_L2 x4_2 0) from ge210_0)
            clear hv210_0 ge210_0
            have HX210_0 := Aside0.mk hx210_0
            clear hcc210 hce210
            have qi210 : (0 < x4_2.length) = True := eq_true (by omega)
            (try rw [show ((0 : Int)).toNat = 0 from rfl] at hx210_0)
            (try rw [Addr.add_zero'] at hx210_0)
            have HR210_0 := Aside0.mk hi210_0
            have HC210_0 := Aside0.mk hl210_0
            clear hi210_0 hl210_0
            replace p210 := eq_true p210
            replace q210 := eq_true q210
            have p211 : 0 ≤ ((ji45) : Int) := zD
            have q211 : (ji45) < ((rd_L2 x4_2 0).length : Int) := zD
            obtain ⟨ad211, e211, hx211_0⟩ := Kd.at_int (by repeat (first | (with_reducible exact HR210_0.out) | (with_reducible refine Kd.C_alloc ?_ _) | (with_reducible refine Kd.C_drewN ?_ _) | (with_reducible refine Kd.C_drew ?_) | exact HR210_0.out)) (ji45) p211 q211
            cases e211
            replace p211 := eq_true p211
            replace q211 := eq_true q211
            go_wp2
            repeat (go_quiet (fail); try go_wp2)
            go_ret
            exact ⟨by first | rfl | (simp [errW_none, errW_some] <;> rfl) | (simp only [← hji45]; first | rfl | (simp [errW_none, errW_some] <;> rfl)) | (simp [*, errW_none, errW_some] <;> rfl), zB HB.out⟩
           ·rw [if_neg c47] at H
            exact absurd H (by simp)
          ·rw [if_neg c46] at H
           exact absurd H (by simp)
         ·rw [if_neg c44] at H
          exact absurd H (by simp)
  ·rw [if_neg c3] at H
   exact absurd H (by simp)
 ·rw [if_neg c2] at H
  exact absurd H (by simp)
end Go.Proofs.Ytcdmmpbcjcajlaa.XFnOrderedCodes
